/- The statement OverlayNil, and its tied card. -/
import Derived.Test.YtechahocffcbpaaGreatDoorCards
import Derived.Test.YtechahocffcbpaaGreatDoorTie
import Derived.Test.YtechahocffcbpaaGreatDoorPnFacts
import Derived.Test.YtechahocffcbpaaGreatDoorPna
import Derived.Test.YtechahocffcbpaaGreatDoorPnb
import Derived.Test.YtechahocffcbpaaGreatDoorPnc
import Derived.Test.YtechahocffcbpaaGreatDoorPnd
import Derived.Test.YtechahocffcbpaaGreatDoorPne
import Derived.Test.YtechahocffcbpaaGreatDoorPnf
import Derived.Test.YtechahocffcbpaaGreatDoorPnLaidO
import Derived.WalkKit
import Derived.ProofKit
import Derived.OpenShut
import Derived.Deep.DeepHandedRow
import Derived.JoinedCond
import GoSem.PinnedTables
namespace Go.Proofs.YtechahocffcbpaaGreatDoor
open Go.ChangeShapes Go.WideShapes Go.ChangeAt Go.RowKit
set_option linter.unusedVariables false
set_option linter.unusedSimpArgs false
set_option maxRecDepth 100000
theorem overlayNil_k0 : (Rows.overlayNilRow.wf (OpenSpec.ofChange Rows.overlayNilSpec)) = true := by kernel_rfl
theorem overlayNil_k1 : (laidOutB Tryz.prog) = true := by kernel_rfl
theorem overlayNil_k2 : (mapsRowed Tryz.prog) = true := by kernel_rfl
theorem overlayNil_k3 : (Tryz.f5.params.all (Tryz.prog.readableRec ·)) = true := by kernel_rfl
theorem overlayNil_k4 : (namedTie Tryz.prog Rows.overlayNilRow.named Rows.overlayNilSpec.vars) = true := by kernel_rfl
theorem overlayNil_k5 : ((Rows.overlayNilRow.stops == [])) = true := by kernel_rfl
theorem overlayNil_k6 : ((Tryz.prog.stops == [])) = true := by kernel_rfl
theorem overlayNil_k7 : ((Rows.overlayNilRow.knobs == [])) = true := by kernel_rfl
theorem overlayNil_k8 : ((Tryz.prog.stopKnobs == [])) = true := by kernel_rfl
theorem overlayNil_k9 : ((Rows.overlayNilRow.inPlace == Tryz.prog.inPlace 5)) = true := by kernel_rfl
theorem overlayNil_k10 : ((Rows.overlayNilRow.unfollowed == Tryz.prog.unfollowed 5)) = true := by kernel_rfl
theorem overlayNil_k11 : ((Rows.overlayNilRow.recurses == Tryz.prog.recurses 5)) = true := by kernel_rfl
theorem overlayNil_k12 : ((Rows.overlayNilRow.named == Tryz.prog.varsNamed 5)) = true := by kernel_rfl
theorem overlayNil_k13 : ((Rows.overlayNilRow.maps == (Tryz.f5.params.toList ++ Rows.overlayNilSpec.plain.varTypes Tryz.prog).any (Tryz.prog.mapsRec ·))) = true := by kernel_rfl
theorem overlayNil_k14 : ((Rows.overlayNilRow.ifaces == (Tryz.f5.params.toList ++ Rows.overlayNilSpec.plain.varTypes Tryz.prog).any (Tryz.prog.ifacesRec ·))) = true := by kernel_rfl
theorem overlayNil_k15 : ((Rows.overlayNilRow.mapsOut == Tryz.prog.mapsAmong Tryz.f5.resultTypes.toList)) = true := by kernel_rfl
theorem overlayNil_k16 : ((Rows.overlayNilRow.loops == (Tryz.f5.params.toList ++ Rows.overlayNilSpec.plain.varTypes Tryz.prog).any (Tryz.prog.loopsFrom ·))) = true := by kernel_rfl
theorem overlayNil_k17 : ((Rows.overlayNilRow.wideKeys == (Tryz.f5.params.toList ++ Rows.overlayNilSpec.plain.varTypes Tryz.prog ++ Tryz.f5.resultTypes.toList).any (Tryz.prog.wideKeysFrom ·))) = true := by kernel_rfl
theorem overlayNil_k18 : (Rows.overlayNilSpec.vars.all (Tryz.prog.varReadable ·)) = true := by kernel_rfl
theorem overlayNil_k19 : (Tryz.f5.resultTypes.all (fun t => Tryz.prog.readableRec t && decide (t < Tryz.prog.types.size))) = true := by kernel_rfl
theorem overlayNil_k20 : ((Rows.overlayNilRow.ifacesOut == Tryz.f5.resultTypes.toList.any (Tryz.prog.ifacesRec ·))) = true := by kernel_rfl
theorem overlayNil_k21 : ((Rows.overlayNilRow.loopsOut == Tryz.f5.resultTypes.toList.any (Tryz.prog.loopsFrom ·))) = true := by kernel_rfl
theorem overlayNil_k22 : ((Rows.overlayNilRow.plainKeys == Tryz.prog.plainKeys)) = true := by kernel_rfl
theorem overlayNil_k23 : (Rows.overlayNilRow.shortTexts.isNone) = true := by kernel_rfl
theorem overlayNil_k24 : (Tryz.prog.stopsHeard) = true := by kernel_rfl
theorem overlayNil_k25 : (Tryz.prog.mayEnter) = true := mayEnter_of Tryz.prog (behindMainWord (wordsSigns initSigns)) (congrArg (fun l => behindMainWord (wordsSigns l)) initL) initStrip1 initStrip2 initLays initReflect initDoors
theorem overlayNil_k26 : ((Rows.overlayNilRow.lifted == Tryz.prog.liftsFinal)) = true := beq_of (liftsFinal_of Tryz.prog (behindMainWord (wordsSigns initSigns)) (congrArg (fun l => behindMainWord (wordsSigns l)) initL) initStrip1 initHead)
theorem overlayNil_k27 : ((Tryz.prog.make == some Rows.overlayNilRow.make)) = true := by rw [make_of Tryz.prog (behindMainWord (wordsSigns initSigns)) (congrArg (fun l => behindMainWord (wordsSigns l)) initL) initHead]; rfl
theorem overlayNil_k28 : ((Rows.overlayNilRow.kinds == [])) = true := by kernel_rfl
theorem overlayNil_k29 : ((Rows.overlayNilRow.pinned == Rows.overlayNilRow.pinnedBy)) = true := by kernel_rfl
theorem overlayNil_k30 : ((Rows.overlayNilRow.veiled == (Tryz.f5.params.toList ++ Rows.overlayNilSpec.plain.varTypes Tryz.prog ++ Tryz.f5.resultTypes.toList).any (Tryz.prog.veiledRec ·))) = true := by kernel_rfl
theorem overlayNil_k31 : (Rows.overlayNilRow.veiledFits Tryz.prog Tryz.f5.params.toList (Tryz.f5.params.toList ++ Rows.overlayNilSpec.plain.varTypes Tryz.prog ++ Tryz.f5.resultTypes.toList)) = true := by kernel_rfl
theorem overlayNil_dom : (Rows.overlayNilRow.domain.isEmpty) = true := by kernel_rfl
theorem overlayNil_join : joinedFacts Tryz.prog 5 Tryz.f5 Rows.overlayNilSpec Rows.overlayNilRow = true :=
  join_of overlayNil_dom overlayNil_k0 overlayNil_k1 overlayNil_k2 overlayNil_k3 overlayNil_k4 overlayNil_k5 overlayNil_k6 overlayNil_k7 overlayNil_k8 overlayNil_k9 overlayNil_k10 overlayNil_k11 overlayNil_k12 overlayNil_k13 overlayNil_k14 overlayNil_k15 overlayNil_k16 overlayNil_k17 overlayNil_k18 overlayNil_k19 overlayNil_k20 overlayNil_k21 overlayNil_k22 overlayNil_k23 overlayNil_k24 overlayNil_k25 overlayNil_k26 overlayNil_k27 overlayNil_k28 overlayNil_k29 overlayNil_k30 overlayNil_k31
/-- A variable's cells, as they are laid. -/
def layAt (h : Array Obj) (i : Nat) (cs : Array Value) : Array Obj := h.modify i fun
  | .cells _ t z => .cells cs t z
  | o => o
def overlayNil_t4 : Array Value := #[.int .u8 0, .int .u8 1, .int .u8 28, .int .u8 2, .int .u8 29, .int .u8 14, .int .u8 24, .int .u8 3, .int .u8 30, .int .u8 22, .int .u8 20, .int .u8 15, .int .u8 25, .int .u8 17, .int .u8 4, .int .u8 8, .int .u8 31, .int .u8 27, .int .u8 13, .int .u8 23, .int .u8 21, .int .u8 19, .int .u8 16, .int .u8 7, .int .u8 26, .int .u8 12, .int .u8 18, .int .u8 6, .int .u8 11, .int .u8 5, .int .u8 10, .int .u8 9]
def overlayNil_t5 : Array Value := #[.int .u8 0, .int .u8 1, .int .u8 56, .int .u8 2, .int .u8 57, .int .u8 49, .int .u8 28, .int .u8 3, .int .u8 61, .int .u8 58, .int .u8 42, .int .u8 50, .int .u8 38, .int .u8 29, .int .u8 17, .int .u8 4, .int .u8 62, .int .u8 47, .int .u8 59, .int .u8 36, .int .u8 45, .int .u8 43, .int .u8 51, .int .u8 22, .int .u8 53, .int .u8 39, .int .u8 33, .int .u8 30, .int .u8 24, .int .u8 18, .int .u8 12, .int .u8 5, .int .u8 63, .int .u8 55, .int .u8 48, .int .u8 27, .int .u8 60, .int .u8 41, .int .u8 37, .int .u8 16, .int .u8 46, .int .u8 35, .int .u8 44, .int .u8 21, .int .u8 52, .int .u8 32, .int .u8 23, .int .u8 11, .int .u8 54, .int .u8 26, .int .u8 40, .int .u8 15, .int .u8 34, .int .u8 20, .int .u8 31, .int .u8 10, .int .u8 25, .int .u8 14, .int .u8 19, .int .u8 9, .int .u8 13, .int .u8 8, .int .u8 7, .int .u8 6]
def overlayNil_t3 : Array Value := #[.int .u64 1, .int .u64 10, .int .u64 100, .int .u64 1000, .int .u64 10000, .int .u64 100000, .int .u64 1000000, .int .u64 10000000, .int .u64 100000000, .int .u64 1000000000, .int .u64 10000000000, .int .u64 100000000000, .int .u64 1000000000000, .int .u64 10000000000000, .int .u64 100000000000000, .int .u64 1000000000000000, .int .u64 10000000000000000, .int .u64 100000000000000000, .int .u64 1000000000000000000, .int .u64 10000000000000000000]
def overlayNil_t1 : Array Value := #[.int .u8 128, .int .u8 191, .int .u8 160, .int .u8 191, .int .u8 128, .int .u8 159, .int .u8 144, .int .u8 191, .int .u8 128, .int .u8 143, .int .u8 0, .int .u8 0, .int .u8 0, .int .u8 0, .int .u8 0, .int .u8 0, .int .u8 0, .int .u8 0, .int .u8 0, .int .u8 0, .int .u8 0, .int .u8 0, .int .u8 0, .int .u8 0, .int .u8 0, .int .u8 0, .int .u8 0, .int .u8 0, .int .u8 0, .int .u8 0, .int .u8 0, .int .u8 0]
def overlayNil_t0 : Array Value := (Go.Pinned.utf8FirstZ.map fun (z : Nat) => Value.int .u8 (z : Int)).toArray
noncomputable def overlayNil_world (os : Os) : World := { World.holding Tryz.prog os ⟨#[], #[], []⟩ with heap := layAt (layAt (layAt (layAt (layAt ((World.holding Tryz.prog os ⟨#[], #[], []⟩).heap) 4 overlayNil_t4) 5 overlayNil_t5) 3 overlayNil_t3) 1 overlayNil_t1) 0 overlayNil_t0 }
theorem overlayNil_met (os : Os) : laidMet Tryz.prog Rows.overlayNilRow.laid ((overlayNil_world os).forCall (fun _ _ => 0) ⟨#[], #[], []⟩).memory :=
  laidMet_of_run' 8 (by kernel_rfl) (by kernel_rfl)
theorem overlayNil_reads (os : Os) {H : Type} (enc : TypeId × Value → H) : ∃ places, DataW.whole enc Tryz.prog ((overlayNil_world os).forCall (fun _ _ => 0) ⟨#[], #[], []⟩).memory Tryz.f5.params.toList Rows.overlayNilSpec.vars false (#[] : Array Value).toList 8 = some ([], [], places) :=
  ⟨[], by kernel_rfl⟩
theorem overlayNil_lifted (os : Os) (started : os.Started) (H : Type) (enc : TypeId × Value → H) (F : Stop.Interp) :
    ReturnsInHanded {} Tryz.checked os 5 .any ((OpenSpec.ofChange Rows.overlayNilSpec).preRow enc Tryz.prog Tryz.f5 Rows.overlayNilRow.domain false Rows.overlayNilRow.laid) (((OpenSpec.ofChange Rows.overlayNilSpec).at F).post enc Tryz.prog Tryz.f5 false true false false) := by
  obtain ⟨places, hx⟩ := overlayNil_reads os enc
  refine returnsInHanded_of_row (C := Tryz.checked) (s := OpenSpec.ofChange Rows.overlayNilSpec) ownNone started (by kernel_rfl) Tryz.func5
    (witness_row_at (enc := enc) (C := Tryz.checked) false (overlayNil_world os) #[] rfl (by kernel_rfl) (by kernel_rfl) (by kernel_rfl)
      (OpenSpec.preRow_of_cond 8 hx (by kernel_rfl) (fun k hk => by cases hk) (by kernel_rfl) (overlayNil_met os))) ?_
  intro W base args ds gs before hval0 hW _ _ _ hL _ _
  have hW' := hW
  obtain ⟨p, q, hA0, hV, rfl, hfz, hnd⟩ := hW
  have hA : DataW.TrodAll enc Tryz.prog W 0 (fun _ => true) true Tryz.f5.params.toList args.toList ds p := hA0
  rw [Tryz.params5] at hA
  obtain ⟨rfl, rfl, rfl⟩ := trodAll_none hA
  obtain ⟨rfl, rfl⟩ := trodVars_none hV
  clear hA0 hval0
  simp only [List.append_nil] at hW'
  refine (nil12 (lib0_of hL)).mono fun e W' ⟨he, hg⟩ => ?_
  subst he
  exact ⟨_, rfl, post_of_below (pa := []) (pv := []) hW' (fun _ _ _ => (trodAll_cons_mk (shut_bool Tryz.underlying4 _) trodAll_mk0)) (fun sp _ => rfl) (fun _ _ => rfl) rfl
    (hg.below fun b _ h => h) (ok_one (by kernel_rfl) rfl (okWide_bool_mk Tryz.underlying4 _))⟩
theorem overlayNil_said : Rows.OverlayNilSaid :=
  OpenClaim.holds_of_cond 5 Tryz.f5 rfl rfl rfl rfl rfl rfl rfl ⟨rfl, rfl, rfl, rfl, rfl⟩ rfl rfl rfl rfl rfl (by kernel_rfl) Tryz.func5 overlayNil_join
    (of_decide_eq_true (by kernel_rfl)) (by unfold Func.isWrapper; first | (rw [if_pos (by decide +kernel)]; kernel_rfl) | (rw [if_neg (by decide +kernel)]; exact ⟨rfl, rfl⟩))
    (fun os started H enc _ F => by rw [OpenClaim.pre_eq_preRow]; exact overlayNil_lifted os started H enc F)
theorem overlayNil_plain (f : FuncId) (fn : Func) (hf : Tryz.pinned.checked.prog.funcNamed "commonplace/commonplacelaw12.OverlayNil" = some f) (hfn : Tryz.pinned.checked.prog.funcs[f]? = some fn) :
    false = Tryz.pinned.checked.prog.looks [] ∧ ∀ (j : Nat) t, fn.params[j]? = some t → Tryz.pinned.checked.prog.wantsStandIn t = false := by
  obtain rfl : f = 5 := Option.some.inj ((show Tryz.prog.funcNamed "commonplace/commonplacelaw12.OverlayNil" = some 5 by kernel_rfl).symm.trans hf) |>.symm
  obtain rfl : fn = Tryz.f5 := (Option.some.inj (Tryz.func5.symm.trans hfn)).symm
  refine ⟨by kernel_rfl, fun j t ht => ?_⟩
  have hp : Tryz.f5.params = #[] := by kernel_rfl
  rw [hp] at ht
  simp at ht
theorem overlayNil_card : Rows.OverlayNilCardSaid :=
  Claim7.holds_tied_plain_at .later [] _ _ _ _ overlayNil_said (fun _ h => by cases h) (by kernel_rfl) (fun _ h => by cases h) overlayNil_row_tie rfl ⟨rfl, rfl⟩ (by kernel_rfl) rfl overlayNil_plain (by kernel_rfl)
#print axioms overlayNil_card
end Go.Proofs.YtechahocffcbpaaGreatDoor
