/- The statement OverlayPlays (of what is of bulk at most 1048576), and its tied card. -/
import Derived.Test.YtechahocffcbpaaGreatDoorCards
import Derived.Test.YtechahocffcbpaaGreatDoorTie
import Derived.Test.YtechahocffcbpaaGreatDoorPwFacts
import Derived.Test.YtechahocffcbpaaGreatDoorPwa
import Derived.Test.YtechahocffcbpaaGreatDoorPwb
import Derived.Test.YtechahocffcbpaaGreatDoorPwc
import Derived.Test.YtechahocffcbpaaGreatDoorPwd
import Derived.Test.YtechahocffcbpaaGreatDoorPwe
import Derived.Test.YtechahocffcbpaaGreatDoorPwf
import Derived.Test.YtechahocffcbpaaGreatDoorPwg
import Derived.Test.YtechahocffcbpaaGreatDoorPwh
import Derived.Test.YtechahocffcbpaaGreatDoorPwi
import Derived.Test.YtechahocffcbpaaGreatDoorPwj
import Derived.Test.YtechahocffcbpaaGreatDoorPwk
import Derived.Test.YtechahocffcbpaaGreatDoorPwl
import Derived.Test.YtechahocffcbpaaGreatDoorPwm
import Derived.Test.YtechahocffcbpaaGreatDoorPwn
import Derived.Test.YtechahocffcbpaaGreatDoorPwo
import Derived.Test.YtechahocffcbpaaGreatDoorPwp
import Derived.Test.YtechahocffcbpaaGreatDoorPwq
import Derived.Test.YtechahocffcbpaaGreatDoorPwr
import Derived.WalkKit
import Derived.ProofKit
import Derived.OpenShut
import Derived.ShutString
import Derived.Deep.DeepHandedRow
import Derived.Deep.CondSized
import Derived.JoinedCond
import GoSem.PinnedTables
namespace Go.Proofs.YtechahocffcbpaaGreatDoor
open Go.ChangeShapes Go.WideShapes Go.ChangeAt Go.RowKit
open Go.ChangeMaps (open_string shut_string)
set_option linter.unusedVariables false
set_option linter.unusedSimpArgs false
set_option linter.unnecessarySimpa false
set_option maxRecDepth 100000
theorem overlayPlays_k0 : (Rows.overlayPlaysUptoRow.wf (OpenSpec.ofChange Rows.overlayPlaysSpec)) = true := by kernel_rfl
theorem overlayPlays_k1 : (laidOutB Tryz.prog) = true := by kernel_rfl
theorem overlayPlays_k2 : (mapsRowed Tryz.prog) = true := by kernel_rfl
theorem overlayPlays_k3 : (Tryz.f6.params.all (Tryz.prog.readableRec ·)) = true := by kernel_rfl
theorem overlayPlays_k4 : (namedTie Tryz.prog Rows.overlayPlaysUptoRow.named Rows.overlayPlaysSpec.vars) = true := by kernel_rfl
theorem overlayPlays_k5 : ((Rows.overlayPlaysUptoRow.stops == [])) = true := by kernel_rfl
theorem overlayPlays_k6 : ((Tryz.prog.stops == [])) = true := by kernel_rfl
theorem overlayPlays_k7 : ((Rows.overlayPlaysUptoRow.knobs == [])) = true := by kernel_rfl
theorem overlayPlays_k8 : ((Tryz.prog.stopKnobs == [])) = true := by kernel_rfl
theorem overlayPlays_k9 : ((Rows.overlayPlaysUptoRow.inPlace == Tryz.prog.inPlace 6)) = true := by kernel_rfl
theorem overlayPlays_k10 : ((Rows.overlayPlaysUptoRow.unfollowed == Tryz.prog.unfollowed 6)) = true := by kernel_rfl
theorem overlayPlays_k11 : ((Rows.overlayPlaysUptoRow.recurses == Tryz.prog.recurses 6)) = true := by kernel_rfl
theorem overlayPlays_k12 : ((Rows.overlayPlaysUptoRow.named == Tryz.prog.varsNamed 6)) = true := by kernel_rfl
theorem overlayPlays_k13 : ((Rows.overlayPlaysUptoRow.maps == (Tryz.f6.params.toList ++ Rows.overlayPlaysSpec.plain.varTypes Tryz.prog).any (Tryz.prog.mapsRec ·))) = true := by kernel_rfl
theorem overlayPlays_k14 : ((Rows.overlayPlaysUptoRow.ifaces == (Tryz.f6.params.toList ++ Rows.overlayPlaysSpec.plain.varTypes Tryz.prog).any (Tryz.prog.ifacesRec ·))) = true := by kernel_rfl
theorem overlayPlays_k15 : ((Rows.overlayPlaysUptoRow.mapsOut == Tryz.prog.mapsAmong Tryz.f6.resultTypes.toList)) = true := by kernel_rfl
theorem overlayPlays_k16 : ((Rows.overlayPlaysUptoRow.loops == (Tryz.f6.params.toList ++ Rows.overlayPlaysSpec.plain.varTypes Tryz.prog).any (Tryz.prog.loopsFrom ·))) = true := by kernel_rfl
theorem overlayPlays_k17 : ((Rows.overlayPlaysUptoRow.wideKeys == (Tryz.f6.params.toList ++ Rows.overlayPlaysSpec.plain.varTypes Tryz.prog ++ Tryz.f6.resultTypes.toList).any (Tryz.prog.wideKeysFrom ·))) = true := by kernel_rfl
theorem overlayPlays_k18 : (Rows.overlayPlaysSpec.vars.all (Tryz.prog.varReadable ·)) = true := by kernel_rfl
theorem overlayPlays_k19 : (Tryz.f6.resultTypes.all (fun t => Tryz.prog.readableRec t && decide (t < Tryz.prog.types.size))) = true := by kernel_rfl
theorem overlayPlays_k20 : ((Rows.overlayPlaysUptoRow.ifacesOut == Tryz.f6.resultTypes.toList.any (Tryz.prog.ifacesRec ·))) = true := by kernel_rfl
theorem overlayPlays_k21 : ((Rows.overlayPlaysUptoRow.loopsOut == Tryz.f6.resultTypes.toList.any (Tryz.prog.loopsFrom ·))) = true := by kernel_rfl
theorem overlayPlays_k22 : ((Rows.overlayPlaysUptoRow.plainKeys == Tryz.prog.plainKeys)) = true := by kernel_rfl
theorem overlayPlays_k23 : (Rows.overlayPlaysUptoRow.shortTexts.isNone) = true := by kernel_rfl
theorem overlayPlays_k24 : (Tryz.prog.stopsHeard) = true := by kernel_rfl
theorem overlayPlays_k25 : (Tryz.prog.mayEnter) = true := mayEnter_of Tryz.prog (behindMainWord (wordsSigns initSigns)) (congrArg (fun l => behindMainWord (wordsSigns l)) initL) initStrip1 initStrip2 initLays initReflect initDoors
theorem overlayPlays_k26 : ((Rows.overlayPlaysUptoRow.lifted == Tryz.prog.liftsFinal)) = true := beq_of (liftsFinal_of Tryz.prog (behindMainWord (wordsSigns initSigns)) (congrArg (fun l => behindMainWord (wordsSigns l)) initL) initStrip1 initHead)
theorem overlayPlays_k27 : ((Tryz.prog.make == some Rows.overlayPlaysUptoRow.make)) = true := by rw [make_of Tryz.prog (behindMainWord (wordsSigns initSigns)) (congrArg (fun l => behindMainWord (wordsSigns l)) initL) initHead]; rfl
theorem overlayPlays_k28 : ((Rows.overlayPlaysUptoRow.kinds == [])) = true := by kernel_rfl
theorem overlayPlays_k29 : ((Rows.overlayPlaysUptoRow.pinned == Rows.overlayPlaysUptoRow.pinnedBy)) = true := by kernel_rfl
theorem overlayPlays_k30 : ((Rows.overlayPlaysUptoRow.veiled == (Tryz.f6.params.toList ++ Rows.overlayPlaysSpec.plain.varTypes Tryz.prog ++ Tryz.f6.resultTypes.toList).any (Tryz.prog.veiledRec ·))) = true := by kernel_rfl
theorem overlayPlays_k31 : (Rows.overlayPlaysUptoRow.veiledFits Tryz.prog Tryz.f6.params.toList (Tryz.f6.params.toList ++ Rows.overlayPlaysSpec.plain.varTypes Tryz.prog ++ Tryz.f6.resultTypes.toList)) = true := by kernel_rfl
theorem overlayPlays_dom : (Rows.overlayPlaysUptoRow.domain.isEmpty) = true := by kernel_rfl
theorem overlayPlays_join : joinedFacts Tryz.prog 6 Tryz.f6 Rows.overlayPlaysSpec Rows.overlayPlaysUptoRow = true :=
  join_of overlayPlays_dom overlayPlays_k0 overlayPlays_k1 overlayPlays_k2 overlayPlays_k3 overlayPlays_k4 overlayPlays_k5 overlayPlays_k6 overlayPlays_k7 overlayPlays_k8 overlayPlays_k9 overlayPlays_k10 overlayPlays_k11 overlayPlays_k12 overlayPlays_k13 overlayPlays_k14 overlayPlays_k15 overlayPlays_k16 overlayPlays_k17 overlayPlays_k18 overlayPlays_k19 overlayPlays_k20 overlayPlays_k21 overlayPlays_k22 overlayPlays_k23 overlayPlays_k24 overlayPlays_k25 overlayPlays_k26 overlayPlays_k27 overlayPlays_k28 overlayPlays_k29 overlayPlays_k30 overlayPlays_k31
/-- A variable's cells, as they are laid. -/
def layAt (h : Array Obj) (i : Nat) (cs : Array Value) : Array Obj := h.modify i fun
  | .cells _ t z => .cells cs t z
  | o => o
def overlayPlays_t4 : Array Value := #[.int .u8 0, .int .u8 1, .int .u8 28, .int .u8 2, .int .u8 29, .int .u8 14, .int .u8 24, .int .u8 3, .int .u8 30, .int .u8 22, .int .u8 20, .int .u8 15, .int .u8 25, .int .u8 17, .int .u8 4, .int .u8 8, .int .u8 31, .int .u8 27, .int .u8 13, .int .u8 23, .int .u8 21, .int .u8 19, .int .u8 16, .int .u8 7, .int .u8 26, .int .u8 12, .int .u8 18, .int .u8 6, .int .u8 11, .int .u8 5, .int .u8 10, .int .u8 9]
def overlayPlays_t5 : Array Value := #[.int .u8 0, .int .u8 1, .int .u8 56, .int .u8 2, .int .u8 57, .int .u8 49, .int .u8 28, .int .u8 3, .int .u8 61, .int .u8 58, .int .u8 42, .int .u8 50, .int .u8 38, .int .u8 29, .int .u8 17, .int .u8 4, .int .u8 62, .int .u8 47, .int .u8 59, .int .u8 36, .int .u8 45, .int .u8 43, .int .u8 51, .int .u8 22, .int .u8 53, .int .u8 39, .int .u8 33, .int .u8 30, .int .u8 24, .int .u8 18, .int .u8 12, .int .u8 5, .int .u8 63, .int .u8 55, .int .u8 48, .int .u8 27, .int .u8 60, .int .u8 41, .int .u8 37, .int .u8 16, .int .u8 46, .int .u8 35, .int .u8 44, .int .u8 21, .int .u8 52, .int .u8 32, .int .u8 23, .int .u8 11, .int .u8 54, .int .u8 26, .int .u8 40, .int .u8 15, .int .u8 34, .int .u8 20, .int .u8 31, .int .u8 10, .int .u8 25, .int .u8 14, .int .u8 19, .int .u8 9, .int .u8 13, .int .u8 8, .int .u8 7, .int .u8 6]
def overlayPlays_t3 : Array Value := #[.int .u64 1, .int .u64 10, .int .u64 100, .int .u64 1000, .int .u64 10000, .int .u64 100000, .int .u64 1000000, .int .u64 10000000, .int .u64 100000000, .int .u64 1000000000, .int .u64 10000000000, .int .u64 100000000000, .int .u64 1000000000000, .int .u64 10000000000000, .int .u64 100000000000000, .int .u64 1000000000000000, .int .u64 10000000000000000, .int .u64 100000000000000000, .int .u64 1000000000000000000, .int .u64 10000000000000000000]
def overlayPlays_t1 : Array Value := #[.int .u8 128, .int .u8 191, .int .u8 160, .int .u8 191, .int .u8 128, .int .u8 159, .int .u8 144, .int .u8 191, .int .u8 128, .int .u8 143, .int .u8 0, .int .u8 0, .int .u8 0, .int .u8 0, .int .u8 0, .int .u8 0, .int .u8 0, .int .u8 0, .int .u8 0, .int .u8 0, .int .u8 0, .int .u8 0, .int .u8 0, .int .u8 0, .int .u8 0, .int .u8 0, .int .u8 0, .int .u8 0, .int .u8 0, .int .u8 0, .int .u8 0, .int .u8 0]
def overlayPlays_t0 : Array Value := (Go.Pinned.utf8FirstZ.map fun (z : Nat) => Value.int .u8 (z : Int)).toArray
noncomputable def overlayPlays_world (os : Os) : World := { World.holding Tryz.prog os ⟨#[], #[], []⟩ with heap := layAt (layAt (layAt (layAt (layAt ((World.holding Tryz.prog os ⟨#[], #[], []⟩).heap) 4 overlayPlays_t4) 5 overlayPlays_t5) 3 overlayPlays_t3) 1 overlayPlays_t1) 0 overlayPlays_t0 }
theorem overlayPlays_met (os : Os) : laidMet Tryz.prog Rows.overlayPlaysUptoRow.laid ((overlayPlays_world os).forCall (fun _ _ => 0) ⟨#[], #[.slice none 0 0, .slice none 0 0, .string ByteArray.empty], []⟩).memory :=
  laidMet_of_run' 8 (by kernel_rfl) (by kernel_rfl)
theorem overlayPlays_reads0 (os : Os) {H : Type} (enc : TypeId × Value → H) : ∃ places, DataW.whole enc Tryz.prog ((overlayPlays_world os).forCall (fun _ _ => 0) ⟨#[], #[.slice none 0 0, .slice none 0 0, .string ByteArray.empty], []⟩).memory Tryz.f6.params.toList (Rows.OpenSpec.upto Rows.overlayPlaysSpec).vars false (#[.slice none 0 0, .slice none 0 0, .string ByteArray.empty] : Array Value).toList 8 = some ([.nil, .nil, .lit (.string [])], [], places) :=
  ⟨[], by kernel_rfl⟩
theorem overlayPlays_reads : ∀ t ∈ Tryz.f6.params.toList, Tryz.prog.readableRec t = true ∧ t < Tryz.prog.types.size := by
  have h : (Tryz.f6.params.toList.all fun t => Tryz.prog.readableRec t && decide (t < Tryz.prog.types.size)) = true := by kernel_rfl
  intro t ht
  simpa using List.all_eq_true.1 h t ht
theorem overlayPlays_lifted (os : Os) (started : os.Started) (H : Type) (enc : TypeId × Value → H) (F : Stop.Interp) :
    ReturnsInHanded {} Tryz.checked os 6 .any ((Rows.OpenSpec.upto Rows.overlayPlaysSpec).preRow enc Tryz.prog Tryz.f6 Rows.overlayPlaysUptoRow.domain false Rows.overlayPlaysUptoRow.laid) (((Rows.OpenSpec.upto Rows.overlayPlaysSpec).at F).post enc Tryz.prog Tryz.f6 false true false false) := by
  obtain ⟨places, hx⟩ := overlayPlays_reads0 os enc
  refine returnsInHanded_of_row (C := Tryz.checked) (s := Rows.OpenSpec.upto Rows.overlayPlaysSpec) ownNone started (by kernel_rfl) Tryz.func6
    (witness_row_at (enc := enc) (C := Tryz.checked) false (overlayPlays_world os) #[.slice none 0 0, .slice none 0 0, .string ByteArray.empty] rfl (by kernel_rfl) (by kernel_rfl) (by kernel_rfl)
      (OpenSpec.preRow_of_cond 8 hx (by kernel_rfl) (fun k hk => by cases hk; kernel_rfl) (by kernel_rfl) (overlayPlays_met os))) ?_
  intro W base args ds gs before hval0 hW _ hcond hwt hL _ _
  have hk : Rows.uptoSmall H (ds ++ gs) = true := hcond _ rfl
  have hval : ∀ (j : Nat) t v, Tryz.f6.params[j]? = some t → args[j]? = some v → Value.okWide Tryz.prog W .any base t v := hval0
  have hW' := hW
  obtain ⟨p, q, hA0, hV, rfl, hfz, hnd⟩ := hW
  have hA : DataW.TrodAll enc Tryz.prog W 0 (fun _ => true) true Tryz.f6.params.toList args.toList ds p := hA0
  have hA1 := hA
  rw [Tryz.params6] at hA hval
  obtain ⟨v0, vs0, d0, ds0, p0, q0, hargs, rfl, rfl, h0, r0⟩ := trodAll_cons hA
  obtain ⟨v1, vs1, d1, ds1, p1, q1, rfl, rfl, rfl, h1, r1⟩ := trodAll_cons r0
  obtain ⟨v2, vs2, d2, ds2, p2, q2, rfl, rfl, rfl, h2, r2⟩ := trodAll_cons r1
  obtain ⟨rfl, rfl, rfl⟩ := trodAll_nil r2
  obtain rfl : args = #[v0, v1, v2] := by cases args; simp_all
  obtain ⟨rfl, rfl⟩ := trodVars_none hV
  clear hA0 hval0 hargs
  have w0 : WOk Tryz.prog 48 d0 := weightsEach_at hwt 0 _ _ (by kernel_rfl) rfl
  obtain ⟨fuel0, f0⟩ := h0
  obtain ⟨s0, xs0, hc0, hr0⟩ := es_of_trod f0 w0
  obtain ⟨ad0, n0, c0, rfl⟩ := okWide_slice Tryz.underlying48 (hval 0 48 v0 rfl rfl)
  have e0 : Value.slice ad0 n0 c0 = .slice s0.a xs0.length s0.c := by simpa [Value.cells] using hc0
  rw [e0] at hA1 hW' ⊢
  have w1 : WOk Tryz.prog 61 d1 := weightsEach_at hwt 1 _ _ (by kernel_rfl) rfl
  obtain ⟨fuel1, f1⟩ := h1
  have hb1 : Rows.uptoBulk d1 ≤ 1048576 := by
      have hB : Rows.uptoBulkAll _ ≤ 1048576 := of_decide_eq_true hk
      simp only [Rows.uptoBulkAll, List.append_nil, List.cons_append, List.nil_append] at hB
      omega
  obtain ⟨s1, xs1, hc1, hr1⟩ := acts12_of_trod f1 w1 hb1
  obtain ⟨ad1, n1, c1, rfl⟩ := okWide_slice Tryz.underlying61 (hval 1 61 v1 rfl rfl)
  have e1 : Value.slice ad1 n1 c1 = .slice s1.a xs1.length s1.c := by simpa [Value.cells] using hc1
  rw [e1] at hA1 hW' ⊢
  obtain ⟨a2, rfl, rfl, rfl, hr2⟩ := open_string Tryz.underlying9 (hval 2 9 v2 rfl rfl) h2
  refine (plays12 hr0 hr1 hr2 (libq_of hL)).mono fun e W' ⟨he, hg⟩ => ?_
  subst he
  have hB : Below W.heap.size W W' := hg.below fun b _ h => h
  have hlt := DataW.Whole.lt hW'
  exact ⟨_, rfl, post_of_below (pv := []) hW' (fun _ _ _ => (trodAll_cons_mk (shut_bool Tryz.underlying4 _) trodAll_mk0)) (fun sp hsp => trodAll_stays overlayPlays_k1 hB sp overlayPlays_reads hA1 (fun z hz => hlt z (by simpa using hz)) (fun z hz => hsp z (by simpa using hz))) (fun _ _ => rfl) rfl
    hB (ok_one (by kernel_rfl) rfl (okWide_bool_mk Tryz.underlying4 _))⟩
theorem overlayPlays_said : Rows.OverlayPlaysUptoSaid :=
  OpenClaim.holds_of_cond 6 Tryz.f6 rfl rfl rfl rfl rfl rfl rfl ⟨rfl, rfl, rfl, rfl, rfl⟩ rfl rfl rfl rfl rfl (by kernel_rfl) Tryz.func6 overlayPlays_join
    (of_decide_eq_true (by kernel_rfl)) (by unfold Func.isWrapper; first | (rw [if_pos (by decide +kernel)]; kernel_rfl) | (rw [if_neg (by decide +kernel)]; exact ⟨rfl, rfl⟩))
    (fun os started H enc _ F => by rw [OpenClaim.pre_eq_preRow]; exact overlayPlays_lifted os started H enc F)
theorem overlayPlays_plain (f : FuncId) (fn : Func) (hf : Tryz.pinned.checked.prog.funcNamed "commonplace/commonplacelaw12.OverlayPlays" = some f) (hfn : Tryz.pinned.checked.prog.funcs[f]? = some fn) :
    false = Tryz.pinned.checked.prog.looks [] ∧ ∀ (j : Nat) t, fn.params[j]? = some t → Tryz.pinned.checked.prog.wantsStandIn t = false := by
  obtain rfl : f = 6 := Option.some.inj ((show Tryz.prog.funcNamed "commonplace/commonplacelaw12.OverlayPlays" = some 6 by kernel_rfl).symm.trans hf) |>.symm
  obtain rfl : fn = Tryz.f6 := (Option.some.inj (Tryz.func6.symm.trans hfn)).symm
  refine ⟨by kernel_rfl, fun j t ht => ?_⟩
  have hall : (Tryz.f6.params.toList.all fun t => !Tryz.prog.wantsStandIn t) = true := by kernel_rfl
  have hm : t ∈ Tryz.f6.params.toList := Array.mem_toList_iff.2 (Array.mem_of_getElem? ht)
  have h1 := List.all_eq_true.1 hall t hm
  show Tryz.prog.wantsStandIn t = false
  simpa using h1
theorem overlayPlays_upto : Rows.OverlayPlaysUptoCardSaid :=
  Claim7.holds_tied_plain_at .later [] _ _ _ _ overlayPlays_said (fun _ h => by cases h) (by kernel_rfl) (fun _ h => by cases h) overlayPlaysUpto_row_tie rfl ⟨rfl, rfl⟩ (by kernel_rfl) rfl overlayPlays_plain (by kernel_rfl)
#print axioms overlayPlays_upto
end Go.Proofs.YtechahocffcbpaaGreatDoor
