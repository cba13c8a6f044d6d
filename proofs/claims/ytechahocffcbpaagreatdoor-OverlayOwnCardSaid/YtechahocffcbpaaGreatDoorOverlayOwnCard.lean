/- The statement OverlayOwn, and its tied card. -/
import Derived.Test.YtechahocffcbpaaGreatDoorCards
import Derived.Test.YtechahocffcbpaaGreatDoorTie
import Derived.Test.YtechahocffcbpaaGreatDoorPmFacts
import Derived.Test.YtechahocffcbpaaGreatDoorPma
import Derived.Test.YtechahocffcbpaaGreatDoorPmb
import Derived.Test.YtechahocffcbpaaGreatDoorPmc
import Derived.Test.YtechahocffcbpaaGreatDoorPmd
import Derived.Test.YtechahocffcbpaaGreatDoorPme
import Derived.Test.YtechahocffcbpaaGreatDoorPmf
import Derived.Test.YtechahocffcbpaaGreatDoorPmg
import Derived.Test.YtechahocffcbpaaGreatDoorPmh
import Derived.Test.YtechahocffcbpaaGreatDoorPmLaidO
import Derived.WalkKit
import Derived.ProofKit
import Derived.OpenShut
import Derived.Deep.DeepHandedRow
import Derived.JoinedCond
import GoSem.PinnedTables
namespace Go.Proofs.YtechahocffcbpaaGreatDoor
open Go.ChangeShapes Go.WideShapes Go.ChangeAt Go.RowKit
set_option linter.unusedVariables false
set_option linter.unusedSimpArgs false
set_option maxRecDepth 100000
theorem overlayOwn_k0 : (Rows.overlayOwnRow.wf (OpenSpec.ofChange Rows.overlayOwnSpec)) = true := by kernel_rfl
theorem overlayOwn_k1 : (laidOutB Tryz.prog) = true := by kernel_rfl
theorem overlayOwn_k2 : (mapsRowed Tryz.prog) = true := by kernel_rfl
theorem overlayOwn_k3 : (Tryz.f3.params.all (Tryz.prog.readableRec ·)) = true := by kernel_rfl
theorem overlayOwn_k4 : (namedTie Tryz.prog Rows.overlayOwnRow.named Rows.overlayOwnSpec.vars) = true := by kernel_rfl
theorem overlayOwn_k5 : ((Rows.overlayOwnRow.stops == [])) = true := by kernel_rfl
theorem overlayOwn_k6 : ((Tryz.prog.stops == [])) = true := by kernel_rfl
theorem overlayOwn_k7 : ((Rows.overlayOwnRow.knobs == [])) = true := by kernel_rfl
theorem overlayOwn_k8 : ((Tryz.prog.stopKnobs == [])) = true := by kernel_rfl
theorem overlayOwn_k9 : ((Rows.overlayOwnRow.inPlace == Tryz.prog.inPlace 3)) = true := by kernel_rfl
theorem overlayOwn_k10 : ((Rows.overlayOwnRow.unfollowed == Tryz.prog.unfollowed 3)) = true := by kernel_rfl
theorem overlayOwn_k11 : ((Rows.overlayOwnRow.recurses == Tryz.prog.recurses 3)) = true := by kernel_rfl
theorem overlayOwn_k12 : ((Rows.overlayOwnRow.named == Tryz.prog.varsNamed 3)) = true := by kernel_rfl
theorem overlayOwn_k13 : ((Rows.overlayOwnRow.maps == (Tryz.f3.params.toList ++ Rows.overlayOwnSpec.plain.varTypes Tryz.prog).any (Tryz.prog.mapsRec ·))) = true := by kernel_rfl
theorem overlayOwn_k14 : ((Rows.overlayOwnRow.ifaces == (Tryz.f3.params.toList ++ Rows.overlayOwnSpec.plain.varTypes Tryz.prog).any (Tryz.prog.ifacesRec ·))) = true := by kernel_rfl
theorem overlayOwn_k15 : ((Rows.overlayOwnRow.mapsOut == Tryz.prog.mapsAmong Tryz.f3.resultTypes.toList)) = true := by kernel_rfl
theorem overlayOwn_k16 : ((Rows.overlayOwnRow.loops == (Tryz.f3.params.toList ++ Rows.overlayOwnSpec.plain.varTypes Tryz.prog).any (Tryz.prog.loopsFrom ·))) = true := by kernel_rfl
theorem overlayOwn_k17 : ((Rows.overlayOwnRow.wideKeys == (Tryz.f3.params.toList ++ Rows.overlayOwnSpec.plain.varTypes Tryz.prog ++ Tryz.f3.resultTypes.toList).any (Tryz.prog.wideKeysFrom ·))) = true := by kernel_rfl
theorem overlayOwn_k18 : (Rows.overlayOwnSpec.vars.all (Tryz.prog.varReadable ·)) = true := by kernel_rfl
theorem overlayOwn_k19 : (Tryz.f3.resultTypes.all (fun t => Tryz.prog.readableRec t && decide (t < Tryz.prog.types.size))) = true := by kernel_rfl
theorem overlayOwn_k20 : ((Rows.overlayOwnRow.ifacesOut == Tryz.f3.resultTypes.toList.any (Tryz.prog.ifacesRec ·))) = true := by kernel_rfl
theorem overlayOwn_k21 : ((Rows.overlayOwnRow.loopsOut == Tryz.f3.resultTypes.toList.any (Tryz.prog.loopsFrom ·))) = true := by kernel_rfl
theorem overlayOwn_k22 : ((Rows.overlayOwnRow.plainKeys == Tryz.prog.plainKeys)) = true := by kernel_rfl
theorem overlayOwn_k23 : (Rows.overlayOwnRow.shortTexts.isNone) = true := by kernel_rfl
theorem overlayOwn_k24 : (Tryz.prog.stopsHeard) = true := by kernel_rfl
theorem overlayOwn_k25 : (Tryz.prog.mayEnter) = true := mayEnter_of Tryz.prog (behindMainWord (wordsSigns initSigns)) (congrArg (fun l => behindMainWord (wordsSigns l)) initL) initStrip1 initStrip2 initLays initReflect initDoors
theorem overlayOwn_k26 : ((Rows.overlayOwnRow.lifted == Tryz.prog.liftsFinal)) = true := beq_of (liftsFinal_of Tryz.prog (behindMainWord (wordsSigns initSigns)) (congrArg (fun l => behindMainWord (wordsSigns l)) initL) initStrip1 initHead)
theorem overlayOwn_k27 : ((Tryz.prog.make == some Rows.overlayOwnRow.make)) = true := by rw [make_of Tryz.prog (behindMainWord (wordsSigns initSigns)) (congrArg (fun l => behindMainWord (wordsSigns l)) initL) initHead]; rfl
theorem overlayOwn_k28 : ((Rows.overlayOwnRow.kinds == [])) = true := by kernel_rfl
theorem overlayOwn_k29 : ((Rows.overlayOwnRow.pinned == Rows.overlayOwnRow.pinnedBy)) = true := by kernel_rfl
theorem overlayOwn_k30 : ((Rows.overlayOwnRow.veiled == (Tryz.f3.params.toList ++ Rows.overlayOwnSpec.plain.varTypes Tryz.prog ++ Tryz.f3.resultTypes.toList).any (Tryz.prog.veiledRec ·))) = true := by kernel_rfl
theorem overlayOwn_k31 : (Rows.overlayOwnRow.veiledFits Tryz.prog Tryz.f3.params.toList (Tryz.f3.params.toList ++ Rows.overlayOwnSpec.plain.varTypes Tryz.prog ++ Tryz.f3.resultTypes.toList)) = true := by kernel_rfl
theorem overlayOwn_dom : (Rows.overlayOwnRow.domain.isEmpty) = true := by kernel_rfl
theorem overlayOwn_join : joinedFacts Tryz.prog 3 Tryz.f3 Rows.overlayOwnSpec Rows.overlayOwnRow = true :=
  join_of overlayOwn_dom overlayOwn_k0 overlayOwn_k1 overlayOwn_k2 overlayOwn_k3 overlayOwn_k4 overlayOwn_k5 overlayOwn_k6 overlayOwn_k7 overlayOwn_k8 overlayOwn_k9 overlayOwn_k10 overlayOwn_k11 overlayOwn_k12 overlayOwn_k13 overlayOwn_k14 overlayOwn_k15 overlayOwn_k16 overlayOwn_k17 overlayOwn_k18 overlayOwn_k19 overlayOwn_k20 overlayOwn_k21 overlayOwn_k22 overlayOwn_k23 overlayOwn_k24 overlayOwn_k25 overlayOwn_k26 overlayOwn_k27 overlayOwn_k28 overlayOwn_k29 overlayOwn_k30 overlayOwn_k31
/-- A variable's cells, as they are laid. -/
def layAt (h : Array Obj) (i : Nat) (cs : Array Value) : Array Obj := h.modify i fun
  | .cells _ t z => .cells cs t z
  | o => o
def overlayOwn_t4 : Array Value := #[.int .u8 0, .int .u8 1, .int .u8 28, .int .u8 2, .int .u8 29, .int .u8 14, .int .u8 24, .int .u8 3, .int .u8 30, .int .u8 22, .int .u8 20, .int .u8 15, .int .u8 25, .int .u8 17, .int .u8 4, .int .u8 8, .int .u8 31, .int .u8 27, .int .u8 13, .int .u8 23, .int .u8 21, .int .u8 19, .int .u8 16, .int .u8 7, .int .u8 26, .int .u8 12, .int .u8 18, .int .u8 6, .int .u8 11, .int .u8 5, .int .u8 10, .int .u8 9]
def overlayOwn_t5 : Array Value := #[.int .u8 0, .int .u8 1, .int .u8 56, .int .u8 2, .int .u8 57, .int .u8 49, .int .u8 28, .int .u8 3, .int .u8 61, .int .u8 58, .int .u8 42, .int .u8 50, .int .u8 38, .int .u8 29, .int .u8 17, .int .u8 4, .int .u8 62, .int .u8 47, .int .u8 59, .int .u8 36, .int .u8 45, .int .u8 43, .int .u8 51, .int .u8 22, .int .u8 53, .int .u8 39, .int .u8 33, .int .u8 30, .int .u8 24, .int .u8 18, .int .u8 12, .int .u8 5, .int .u8 63, .int .u8 55, .int .u8 48, .int .u8 27, .int .u8 60, .int .u8 41, .int .u8 37, .int .u8 16, .int .u8 46, .int .u8 35, .int .u8 44, .int .u8 21, .int .u8 52, .int .u8 32, .int .u8 23, .int .u8 11, .int .u8 54, .int .u8 26, .int .u8 40, .int .u8 15, .int .u8 34, .int .u8 20, .int .u8 31, .int .u8 10, .int .u8 25, .int .u8 14, .int .u8 19, .int .u8 9, .int .u8 13, .int .u8 8, .int .u8 7, .int .u8 6]
def overlayOwn_t3 : Array Value := #[.int .u64 1, .int .u64 10, .int .u64 100, .int .u64 1000, .int .u64 10000, .int .u64 100000, .int .u64 1000000, .int .u64 10000000, .int .u64 100000000, .int .u64 1000000000, .int .u64 10000000000, .int .u64 100000000000, .int .u64 1000000000000, .int .u64 10000000000000, .int .u64 100000000000000, .int .u64 1000000000000000, .int .u64 10000000000000000, .int .u64 100000000000000000, .int .u64 1000000000000000000, .int .u64 10000000000000000000]
def overlayOwn_t1 : Array Value := #[.int .u8 128, .int .u8 191, .int .u8 160, .int .u8 191, .int .u8 128, .int .u8 159, .int .u8 144, .int .u8 191, .int .u8 128, .int .u8 143, .int .u8 0, .int .u8 0, .int .u8 0, .int .u8 0, .int .u8 0, .int .u8 0, .int .u8 0, .int .u8 0, .int .u8 0, .int .u8 0, .int .u8 0, .int .u8 0, .int .u8 0, .int .u8 0, .int .u8 0, .int .u8 0, .int .u8 0, .int .u8 0, .int .u8 0, .int .u8 0, .int .u8 0, .int .u8 0]
def overlayOwn_t0 : Array Value := (Go.Pinned.utf8FirstZ.map fun (z : Nat) => Value.int .u8 (z : Int)).toArray
noncomputable def overlayOwn_world (os : Os) : World := { World.holding Tryz.prog os ⟨#[], #[], []⟩ with heap := layAt (layAt (layAt (layAt (layAt ((World.holding Tryz.prog os ⟨#[], #[], []⟩).heap) 4 overlayOwn_t4) 5 overlayOwn_t5) 3 overlayOwn_t3) 1 overlayOwn_t1) 0 overlayOwn_t0 }
theorem overlayOwn_met (os : Os) : laidMet Tryz.prog Rows.overlayOwnRow.laid ((overlayOwn_world os).forCall (fun _ _ => 0) ⟨#[], #[.int .i64 0], []⟩).memory :=
  laidMet_of_run' 8 (by kernel_rfl) (by kernel_rfl)
theorem overlayOwn_reads (os : Os) {H : Type} (enc : TypeId × Value → H) : ∃ places, DataW.whole enc Tryz.prog ((overlayOwn_world os).forCall (fun _ _ => 0) ⟨#[], #[.int .i64 0], []⟩).memory Tryz.f3.params.toList Rows.overlayOwnSpec.vars false (#[.int .i64 0] : Array Value).toList 8 = some ([.lit (.int .i64 0)], [], places) :=
  ⟨[], by kernel_rfl⟩
theorem overlayOwn_lifted (os : Os) (started : os.Started) (H : Type) (enc : TypeId × Value → H) (F : Stop.Interp) :
    ReturnsInHanded {} Tryz.checked os 3 .any ((OpenSpec.ofChange Rows.overlayOwnSpec).preRow enc Tryz.prog Tryz.f3 Rows.overlayOwnRow.domain false Rows.overlayOwnRow.laid) (((OpenSpec.ofChange Rows.overlayOwnSpec).at F).post enc Tryz.prog Tryz.f3 false true false false) := by
  obtain ⟨places, hx⟩ := overlayOwn_reads os enc
  refine returnsInHanded_of_row (C := Tryz.checked) (s := OpenSpec.ofChange Rows.overlayOwnSpec) ownNone started (by kernel_rfl) Tryz.func3
    (witness_row_at (enc := enc) (C := Tryz.checked) false (overlayOwn_world os) #[.int .i64 0] rfl (by kernel_rfl) (by kernel_rfl) (by kernel_rfl)
      (OpenSpec.preRow_of_cond 8 hx (by kernel_rfl) (fun k hk => by cases hk) (by kernel_rfl) (overlayOwn_met os))) ?_
  intro W base args ds gs before hval0 hW _ _ _ hL _ _
  have hW' := hW
  obtain ⟨p, q, hA0, hV, rfl, hfz, hnd⟩ := hW
  have hA : DataW.TrodAll enc Tryz.prog W 0 (fun _ => true) true Tryz.f3.params.toList args.toList ds p := hA0
  have hval : ∀ (j : Nat) t v, Tryz.f3.params[j]? = some t → args[j]? = some v → Value.okWide Tryz.prog W .any base t v := hval0
  rw [Tryz.params3] at hA hval
  obtain ⟨v0, vs0, d0, ds0, p0, q0, hargs, rfl, rfl, h0, r0⟩ := trodAll_cons hA
  obtain ⟨rfl, rfl, rfl⟩ := trodAll_nil r0
  obtain rfl : args = #[v0] := by cases args; simp_all
  obtain ⟨rfl, rfl⟩ := trodVars_none hV
  obtain ⟨a0, rfl, rfl, rfl, w0⟩ := open_int Tryz.underlying2 (hval 0 2 v0 rfl rfl) h0
  clear hA0 hval0
  simp only [List.append_nil] at hW'
  refine (own12w w0 (lib0_of hL)).mono fun e W' ⟨he, hg⟩ => ?_
  subst he
  exact ⟨_, rfl, post_of_below (pa := []) (pv := []) hW' (fun _ _ _ => (trodAll_cons_mk (shut_bool Tryz.underlying4 _) trodAll_mk0)) (fun sp _ => (trodAll_cons_mk (shut_int Tryz.underlying2 w0) trodAll_mk0)) (fun _ _ => rfl) rfl
    (hg.below fun b _ h => h) (ok_one (by kernel_rfl) rfl (okWide_bool_mk Tryz.underlying4 _))⟩
theorem overlayOwn_said : Rows.OverlayOwnSaid :=
  OpenClaim.holds_of_cond 3 Tryz.f3 rfl rfl rfl rfl rfl rfl rfl ⟨rfl, rfl, rfl, rfl, rfl⟩ rfl rfl rfl rfl rfl (by kernel_rfl) Tryz.func3 overlayOwn_join
    (of_decide_eq_true (by kernel_rfl)) (by unfold Func.isWrapper; first | (rw [if_pos (by decide +kernel)]; kernel_rfl) | (rw [if_neg (by decide +kernel)]; exact ⟨rfl, rfl⟩))
    (fun os started H enc _ F => by rw [OpenClaim.pre_eq_preRow]; exact overlayOwn_lifted os started H enc F)
theorem overlayOwn_plain (f : FuncId) (fn : Func) (hf : Tryz.pinned.checked.prog.funcNamed "commonplace/commonplacelaw12.OverlayOwn" = some f) (hfn : Tryz.pinned.checked.prog.funcs[f]? = some fn) :
    false = Tryz.pinned.checked.prog.looks [] ∧ ∀ (j : Nat) t, fn.params[j]? = some t → Tryz.pinned.checked.prog.wantsStandIn t = false := by
  obtain rfl : f = 3 := Option.some.inj ((show Tryz.prog.funcNamed "commonplace/commonplacelaw12.OverlayOwn" = some 3 by kernel_rfl).symm.trans hf) |>.symm
  obtain rfl : fn = Tryz.f3 := (Option.some.inj (Tryz.func3.symm.trans hfn)).symm
  refine ⟨by kernel_rfl, fun j t ht => ?_⟩
  rw [Tryz.params3] at ht
  obtain rfl : t = 2 := by simpa using Array.mem_of_getElem? ht
  exact (show Tryz.prog.wantsStandIn 2 = false by kernel_rfl)
theorem overlayOwn_card : Rows.OverlayOwnCardSaid :=
  Claim7.holds_tied_plain_at .later [] _ _ _ _ overlayOwn_said (fun _ h => by cases h) (by kernel_rfl) (fun _ h => by cases h) overlayOwn_row_tie rfl ⟨rfl, rfl⟩ (by kernel_rfl) rfl overlayOwn_plain (by kernel_rfl)
#print axioms overlayOwn_card
end Go.Proofs.YtechahocffcbpaaGreatDoor
