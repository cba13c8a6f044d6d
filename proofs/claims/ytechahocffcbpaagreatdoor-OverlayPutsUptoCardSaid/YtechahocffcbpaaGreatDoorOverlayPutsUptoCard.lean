/- The statement OverlayPuts (of what is of bulk at most 1048576), and its tied card. -/
import Derived.Test.YtechahocffcbpaaGreatDoorCards
import Derived.Test.YtechahocffcbpaaGreatDoorTie
import Derived.Test.YtechahocffcbpaaGreatDoorPvFacts
import Derived.Test.YtechahocffcbpaaGreatDoorPva
import Derived.Test.YtechahocffcbpaaGreatDoorPvb
import Derived.Test.YtechahocffcbpaaGreatDoorPvc
import Derived.Test.YtechahocffcbpaaGreatDoorPvd
import Derived.Test.YtechahocffcbpaaGreatDoorPve
import Derived.Test.YtechahocffcbpaaGreatDoorPvf
import Derived.Test.YtechahocffcbpaaGreatDoorPvg
import Derived.Test.YtechahocffcbpaaGreatDoorPvh
import Derived.Test.YtechahocffcbpaaGreatDoorPvi
import Derived.Test.YtechahocffcbpaaGreatDoorPvj
import Derived.Test.YtechahocffcbpaaGreatDoorPvk
import Derived.Test.YtechahocffcbpaaGreatDoorPvl
import Derived.Test.YtechahocffcbpaaGreatDoorPvm
import Derived.WalkKit
import Derived.ProofKit
import Derived.OpenShut
import Derived.ShutString
import Derived.Deep.DeepHandedRow
import Derived.Deep.CondSized
import Derived.JoinedCond
import GoSem.PinnedTables
namespace Go.Proofs.YtechahocffcbpaaGreatDoor
open Go.ChangeShapes Go.WideShapes Go.ChangeAt Go.RowKit
open Go.ChangeMaps (open_string shut_string)
set_option linter.unusedVariables false
set_option linter.unusedSimpArgs false
set_option linter.unnecessarySimpa false
set_option maxRecDepth 100000
theorem overlayPuts_k0 : (Rows.overlayPutsUptoRow.wf (OpenSpec.ofChange Rows.overlayPutsSpec)) = true := by kernel_rfl
theorem overlayPuts_k1 : (laidOutB Tryz.prog) = true := by kernel_rfl
theorem overlayPuts_k2 : (mapsRowed Tryz.prog) = true := by kernel_rfl
theorem overlayPuts_k3 : (Tryz.f4.params.all (Tryz.prog.readableRec ·)) = true := by kernel_rfl
theorem overlayPuts_k4 : (namedTie Tryz.prog Rows.overlayPutsUptoRow.named Rows.overlayPutsSpec.vars) = true := by kernel_rfl
theorem overlayPuts_k5 : ((Rows.overlayPutsUptoRow.stops == [])) = true := by kernel_rfl
theorem overlayPuts_k6 : ((Tryz.prog.stops == [])) = true := by kernel_rfl
theorem overlayPuts_k7 : ((Rows.overlayPutsUptoRow.knobs == [])) = true := by kernel_rfl
theorem overlayPuts_k8 : ((Tryz.prog.stopKnobs == [])) = true := by kernel_rfl
theorem overlayPuts_k9 : ((Rows.overlayPutsUptoRow.inPlace == Tryz.prog.inPlace 4)) = true := by kernel_rfl
theorem overlayPuts_k10 : ((Rows.overlayPutsUptoRow.unfollowed == Tryz.prog.unfollowed 4)) = true := by kernel_rfl
theorem overlayPuts_k11 : ((Rows.overlayPutsUptoRow.recurses == Tryz.prog.recurses 4)) = true := by kernel_rfl
theorem overlayPuts_k12 : ((Rows.overlayPutsUptoRow.named == Tryz.prog.varsNamed 4)) = true := by kernel_rfl
theorem overlayPuts_k13 : ((Rows.overlayPutsUptoRow.maps == (Tryz.f4.params.toList ++ Rows.overlayPutsSpec.plain.varTypes Tryz.prog).any (Tryz.prog.mapsRec ·))) = true := by kernel_rfl
theorem overlayPuts_k14 : ((Rows.overlayPutsUptoRow.ifaces == (Tryz.f4.params.toList ++ Rows.overlayPutsSpec.plain.varTypes Tryz.prog).any (Tryz.prog.ifacesRec ·))) = true := by kernel_rfl
theorem overlayPuts_k15 : ((Rows.overlayPutsUptoRow.mapsOut == Tryz.prog.mapsAmong Tryz.f4.resultTypes.toList)) = true := by kernel_rfl
theorem overlayPuts_k16 : ((Rows.overlayPutsUptoRow.loops == (Tryz.f4.params.toList ++ Rows.overlayPutsSpec.plain.varTypes Tryz.prog).any (Tryz.prog.loopsFrom ·))) = true := by kernel_rfl
theorem overlayPuts_k17 : ((Rows.overlayPutsUptoRow.wideKeys == (Tryz.f4.params.toList ++ Rows.overlayPutsSpec.plain.varTypes Tryz.prog ++ Tryz.f4.resultTypes.toList).any (Tryz.prog.wideKeysFrom ·))) = true := by kernel_rfl
theorem overlayPuts_k18 : (Rows.overlayPutsSpec.vars.all (Tryz.prog.varReadable ·)) = true := by kernel_rfl
theorem overlayPuts_k19 : (Tryz.f4.resultTypes.all (fun t => Tryz.prog.readableRec t && decide (t < Tryz.prog.types.size))) = true := by kernel_rfl
theorem overlayPuts_k20 : ((Rows.overlayPutsUptoRow.ifacesOut == Tryz.f4.resultTypes.toList.any (Tryz.prog.ifacesRec ·))) = true := by kernel_rfl
theorem overlayPuts_k21 : ((Rows.overlayPutsUptoRow.loopsOut == Tryz.f4.resultTypes.toList.any (Tryz.prog.loopsFrom ·))) = true := by kernel_rfl
theorem overlayPuts_k22 : ((Rows.overlayPutsUptoRow.plainKeys == Tryz.prog.plainKeys)) = true := by kernel_rfl
theorem overlayPuts_k23 : (Rows.overlayPutsUptoRow.shortTexts.isNone) = true := by kernel_rfl
theorem overlayPuts_k24 : (Tryz.prog.stopsHeard) = true := by kernel_rfl
theorem overlayPuts_k25 : (Tryz.prog.mayEnter) = true := mayEnter_of Tryz.prog (behindMainWord (wordsSigns initSigns)) (congrArg (fun l => behindMainWord (wordsSigns l)) initL) initStrip1 initStrip2 initLays initReflect initDoors
theorem overlayPuts_k26 : ((Rows.overlayPutsUptoRow.lifted == Tryz.prog.liftsFinal)) = true := beq_of (liftsFinal_of Tryz.prog (behindMainWord (wordsSigns initSigns)) (congrArg (fun l => behindMainWord (wordsSigns l)) initL) initStrip1 initHead)
theorem overlayPuts_k27 : ((Tryz.prog.make == some Rows.overlayPutsUptoRow.make)) = true := by rw [make_of Tryz.prog (behindMainWord (wordsSigns initSigns)) (congrArg (fun l => behindMainWord (wordsSigns l)) initL) initHead]; rfl
theorem overlayPuts_k28 : ((Rows.overlayPutsUptoRow.kinds == [])) = true := by kernel_rfl
theorem overlayPuts_k29 : ((Rows.overlayPutsUptoRow.pinned == Rows.overlayPutsUptoRow.pinnedBy)) = true := by kernel_rfl
theorem overlayPuts_k30 : ((Rows.overlayPutsUptoRow.veiled == (Tryz.f4.params.toList ++ Rows.overlayPutsSpec.plain.varTypes Tryz.prog ++ Tryz.f4.resultTypes.toList).any (Tryz.prog.veiledRec ·))) = true := by kernel_rfl
theorem overlayPuts_k31 : (Rows.overlayPutsUptoRow.veiledFits Tryz.prog Tryz.f4.params.toList (Tryz.f4.params.toList ++ Rows.overlayPutsSpec.plain.varTypes Tryz.prog ++ Tryz.f4.resultTypes.toList)) = true := by kernel_rfl
theorem overlayPuts_dom : (Rows.overlayPutsUptoRow.domain.isEmpty) = true := by kernel_rfl
theorem overlayPuts_join : joinedFacts Tryz.prog 4 Tryz.f4 Rows.overlayPutsSpec Rows.overlayPutsUptoRow = true :=
  join_of overlayPuts_dom overlayPuts_k0 overlayPuts_k1 overlayPuts_k2 overlayPuts_k3 overlayPuts_k4 overlayPuts_k5 overlayPuts_k6 overlayPuts_k7 overlayPuts_k8 overlayPuts_k9 overlayPuts_k10 overlayPuts_k11 overlayPuts_k12 overlayPuts_k13 overlayPuts_k14 overlayPuts_k15 overlayPuts_k16 overlayPuts_k17 overlayPuts_k18 overlayPuts_k19 overlayPuts_k20 overlayPuts_k21 overlayPuts_k22 overlayPuts_k23 overlayPuts_k24 overlayPuts_k25 overlayPuts_k26 overlayPuts_k27 overlayPuts_k28 overlayPuts_k29 overlayPuts_k30 overlayPuts_k31
/-- A variable's cells, as they are laid. -/
def layAt (h : Array Obj) (i : Nat) (cs : Array Value) : Array Obj := h.modify i fun
  | .cells _ t z => .cells cs t z
  | o => o
def overlayPuts_t4 : Array Value := #[.int .u8 0, .int .u8 1, .int .u8 28, .int .u8 2, .int .u8 29, .int .u8 14, .int .u8 24, .int .u8 3, .int .u8 30, .int .u8 22, .int .u8 20, .int .u8 15, .int .u8 25, .int .u8 17, .int .u8 4, .int .u8 8, .int .u8 31, .int .u8 27, .int .u8 13, .int .u8 23, .int .u8 21, .int .u8 19, .int .u8 16, .int .u8 7, .int .u8 26, .int .u8 12, .int .u8 18, .int .u8 6, .int .u8 11, .int .u8 5, .int .u8 10, .int .u8 9]
def overlayPuts_t5 : Array Value := #[.int .u8 0, .int .u8 1, .int .u8 56, .int .u8 2, .int .u8 57, .int .u8 49, .int .u8 28, .int .u8 3, .int .u8 61, .int .u8 58, .int .u8 42, .int .u8 50, .int .u8 38, .int .u8 29, .int .u8 17, .int .u8 4, .int .u8 62, .int .u8 47, .int .u8 59, .int .u8 36, .int .u8 45, .int .u8 43, .int .u8 51, .int .u8 22, .int .u8 53, .int .u8 39, .int .u8 33, .int .u8 30, .int .u8 24, .int .u8 18, .int .u8 12, .int .u8 5, .int .u8 63, .int .u8 55, .int .u8 48, .int .u8 27, .int .u8 60, .int .u8 41, .int .u8 37, .int .u8 16, .int .u8 46, .int .u8 35, .int .u8 44, .int .u8 21, .int .u8 52, .int .u8 32, .int .u8 23, .int .u8 11, .int .u8 54, .int .u8 26, .int .u8 40, .int .u8 15, .int .u8 34, .int .u8 20, .int .u8 31, .int .u8 10, .int .u8 25, .int .u8 14, .int .u8 19, .int .u8 9, .int .u8 13, .int .u8 8, .int .u8 7, .int .u8 6]
def overlayPuts_t3 : Array Value := #[.int .u64 1, .int .u64 10, .int .u64 100, .int .u64 1000, .int .u64 10000, .int .u64 100000, .int .u64 1000000, .int .u64 10000000, .int .u64 100000000, .int .u64 1000000000, .int .u64 10000000000, .int .u64 100000000000, .int .u64 1000000000000, .int .u64 10000000000000, .int .u64 100000000000000, .int .u64 1000000000000000, .int .u64 10000000000000000, .int .u64 100000000000000000, .int .u64 1000000000000000000, .int .u64 10000000000000000000]
def overlayPuts_t1 : Array Value := #[.int .u8 128, .int .u8 191, .int .u8 160, .int .u8 191, .int .u8 128, .int .u8 159, .int .u8 144, .int .u8 191, .int .u8 128, .int .u8 143, .int .u8 0, .int .u8 0, .int .u8 0, .int .u8 0, .int .u8 0, .int .u8 0, .int .u8 0, .int .u8 0, .int .u8 0, .int .u8 0, .int .u8 0, .int .u8 0, .int .u8 0, .int .u8 0, .int .u8 0, .int .u8 0, .int .u8 0, .int .u8 0, .int .u8 0, .int .u8 0, .int .u8 0, .int .u8 0]
def overlayPuts_t0 : Array Value := (Go.Pinned.utf8FirstZ.map fun (z : Nat) => Value.int .u8 (z : Int)).toArray
noncomputable def overlayPuts_world (os : Os) : World := { World.holding Tryz.prog os ⟨#[], #[], []⟩ with heap := layAt (layAt (layAt (layAt (layAt ((World.holding Tryz.prog os ⟨#[], #[], []⟩).heap) 4 overlayPuts_t4) 5 overlayPuts_t5) 3 overlayPuts_t3) 1 overlayPuts_t1) 0 overlayPuts_t0 }
theorem overlayPuts_met (os : Os) : laidMet Tryz.prog Rows.overlayPutsUptoRow.laid ((overlayPuts_world os).forCall (fun _ _ => 0) ⟨#[], #[.string ByteArray.empty, .agg #[.int .i64 0, .bool false, .int .i64 0, .string ByteArray.empty, .slice none 0 0, .slice none 0 0]], []⟩).memory :=
  laidMet_of_run' 8 (by kernel_rfl) (by kernel_rfl)
theorem overlayPuts_reads0 (os : Os) {H : Type} (enc : TypeId × Value → H) : ∃ places, DataW.whole enc Tryz.prog ((overlayPuts_world os).forCall (fun _ _ => 0) ⟨#[], #[.string ByteArray.empty, .agg #[.int .i64 0, .bool false, .int .i64 0, .string ByteArray.empty, .slice none 0 0, .slice none 0 0]], []⟩).memory Tryz.f4.params.toList (Rows.OpenSpec.upto Rows.overlayPutsSpec).vars false (#[.string ByteArray.empty, .agg #[.int .i64 0, .bool false, .int .i64 0, .string ByteArray.empty, .slice none 0 0, .slice none 0 0]] : Array Value).toList 8 = some ([.lit (.string []), .agg [.lit (.int .i64 0), .lit (.bool false), .lit (.int .i64 0), .lit (.string []), .nil, .nil]], [], places) :=
  ⟨[], by kernel_rfl⟩
theorem overlayPuts_reads : ∀ t ∈ Tryz.f4.params.toList, Tryz.prog.readableRec t = true ∧ t < Tryz.prog.types.size := by
  have h : (Tryz.f4.params.toList.all fun t => Tryz.prog.readableRec t && decide (t < Tryz.prog.types.size)) = true := by kernel_rfl
  intro t ht
  simpa using List.all_eq_true.1 h t ht
theorem overlayPuts_lifted (os : Os) (started : os.Started) (H : Type) (enc : TypeId × Value → H) (F : Stop.Interp) :
    ReturnsInHanded {} Tryz.checked os 4 .any ((Rows.OpenSpec.upto Rows.overlayPutsSpec).preRow enc Tryz.prog Tryz.f4 Rows.overlayPutsUptoRow.domain false Rows.overlayPutsUptoRow.laid) (((Rows.OpenSpec.upto Rows.overlayPutsSpec).at F).post enc Tryz.prog Tryz.f4 false true false false) := by
  obtain ⟨places, hx⟩ := overlayPuts_reads0 os enc
  refine returnsInHanded_of_row (C := Tryz.checked) (s := Rows.OpenSpec.upto Rows.overlayPutsSpec) ownNone started (by kernel_rfl) Tryz.func4
    (witness_row_at (enc := enc) (C := Tryz.checked) false (overlayPuts_world os) #[.string ByteArray.empty, .agg #[.int .i64 0, .bool false, .int .i64 0, .string ByteArray.empty, .slice none 0 0, .slice none 0 0]] rfl (by kernel_rfl) (by kernel_rfl) (by kernel_rfl)
      (OpenSpec.preRow_of_cond 8 hx (by kernel_rfl) (fun k hk => by cases hk; kernel_rfl) (by kernel_rfl) (overlayPuts_met os))) ?_
  intro W base args ds gs before hval0 hW _ hcond hwt hL _ _
  have hk : Rows.uptoSmall H (ds ++ gs) = true := hcond _ rfl
  have hval : ∀ (j : Nat) t v, Tryz.f4.params[j]? = some t → args[j]? = some v → Value.okWide Tryz.prog W .any base t v := hval0
  have hW' := hW
  obtain ⟨p, q, hA0, hV, rfl, hfz, hnd⟩ := hW
  have hA : DataW.TrodAll enc Tryz.prog W 0 (fun _ => true) true Tryz.f4.params.toList args.toList ds p := hA0
  have hA1 := hA
  rw [Tryz.params4] at hA hval
  obtain ⟨v0, vs0, d0, ds0, p0, q0, hargs, rfl, rfl, h0, r0⟩ := trodAll_cons hA
  obtain ⟨v1, vs1, d1, ds1, p1, q1, rfl, rfl, rfl, h1, r1⟩ := trodAll_cons r0
  obtain ⟨rfl, rfl, rfl⟩ := trodAll_nil r1
  obtain rfl : args = #[v0, v1] := by cases args; simp_all
  obtain ⟨rfl, rfl⟩ := trodVars_none hV
  clear hA0 hval0 hargs
  obtain ⟨a0, rfl, rfl, rfl, hr0⟩ := open_string Tryz.underlying9 (hval 0 9 v0 rfl rfl) h0
  have w1 : WOk Tryz.prog 34 d1 := weightsEach_at hwt 1 _ _ (by kernel_rfl) rfl
  obtain ⟨fuel1, f1⟩ := h1
  have hb1 : Rows.uptoBulk d1 ≤ 1048576 := by
      have hB : Rows.uptoBulkAll _ ≤ 1048576 := of_decide_eq_true hk
      simp only [Rows.uptoBulkAll, List.append_nil, List.cons_append, List.nil_append] at hB
      omega
  obtain ⟨x1, sl1, so1, hc1, hr1, hv1⟩ := rvB_of_trod fuel1 f1 w1
  replace hv1 : cntV x1 ≤ 1100000 := by have hv' : cntV x1 ≤ Rows.uptoBulk d1 := hv1; omega
  obtain ⟨cs1, rfl, -⟩ := okWide_struct Tryz.underlying34 (hval 1 34 v1 rfl rfl)
  have e1 : Value.agg cs1 = aggV x1 sl1 so1 := congrArg Value.agg (Array.toList_inj.1 (by simpa only [Value.cells, cellsV] using hc1))
  rw [e1] at hA1 hW' ⊢
  refine (puts12 hr0 hr1 hv1 (libq_of hL)).mono fun e W' ⟨he, hg⟩ => ?_
  subst he
  have hB : Below W.heap.size W W' := hg.below fun b _ h => h
  have hlt := DataW.Whole.lt hW'
  exact ⟨_, rfl, post_of_below (pv := []) hW' (fun _ _ _ => (trodAll_cons_mk (shut_bool Tryz.underlying4 _) trodAll_mk0)) (fun sp hsp => trodAll_stays overlayPuts_k1 hB sp overlayPuts_reads hA1 (fun z hz => hlt z (by simpa using hz)) (fun z hz => hsp z (by simpa using hz))) (fun _ _ => rfl) rfl
    hB (ok_one (by kernel_rfl) rfl (okWide_bool_mk Tryz.underlying4 _))⟩
theorem overlayPuts_said : Rows.OverlayPutsUptoSaid :=
  OpenClaim.holds_of_cond 4 Tryz.f4 rfl rfl rfl rfl rfl rfl rfl ⟨rfl, rfl, rfl, rfl, rfl⟩ rfl rfl rfl rfl rfl (by kernel_rfl) Tryz.func4 overlayPuts_join
    (of_decide_eq_true (by kernel_rfl)) (by unfold Func.isWrapper; first | (rw [if_pos (by decide +kernel)]; kernel_rfl) | (rw [if_neg (by decide +kernel)]; exact ⟨rfl, rfl⟩))
    (fun os started H enc _ F => by rw [OpenClaim.pre_eq_preRow]; exact overlayPuts_lifted os started H enc F)
theorem overlayPuts_plain (f : FuncId) (fn : Func) (hf : Tryz.pinned.checked.prog.funcNamed "commonplace/commonplacelaw12.OverlayPuts" = some f) (hfn : Tryz.pinned.checked.prog.funcs[f]? = some fn) :
    false = Tryz.pinned.checked.prog.looks [] ∧ ∀ (j : Nat) t, fn.params[j]? = some t → Tryz.pinned.checked.prog.wantsStandIn t = false := by
  obtain rfl : f = 4 := Option.some.inj ((show Tryz.prog.funcNamed "commonplace/commonplacelaw12.OverlayPuts" = some 4 by kernel_rfl).symm.trans hf) |>.symm
  obtain rfl : fn = Tryz.f4 := (Option.some.inj (Tryz.func4.symm.trans hfn)).symm
  refine ⟨by kernel_rfl, fun j t ht => ?_⟩
  have hall : (Tryz.f4.params.toList.all fun t => !Tryz.prog.wantsStandIn t) = true := by kernel_rfl
  have hm : t ∈ Tryz.f4.params.toList := Array.mem_toList_iff.2 (Array.mem_of_getElem? ht)
  have h1 := List.all_eq_true.1 hall t hm
  show Tryz.prog.wantsStandIn t = false
  simpa using h1
theorem overlayPuts_upto : Rows.OverlayPutsUptoCardSaid :=
  Claim7.holds_tied_plain_at .later [] _ _ _ _ overlayPuts_said (fun _ h => by cases h) (by kernel_rfl) (fun _ h => by cases h) overlayPutsUpto_row_tie rfl ⟨rfl, rfl⟩ (by kernel_rfl) rfl overlayPuts_plain (by kernel_rfl)
#print axioms overlayPuts_upto
end Go.Proofs.YtechahocffcbpaaGreatDoor
