/- The statement InterpNil, and its tied card. -/
import Derived.Test.YtkhdiakpdafcdaaGreatDoorCards
import Derived.Test.YtkhdiakpdafcdaaGreatDoorTie
import Derived.Test.YtkhdiakpdafcdaaGreatDoorPnFacts
import Derived.Test.YtkhdiakpdafcdaaGreatDoorPna
import Derived.Test.YtkhdiakpdafcdaaGreatDoorPnb
import Derived.Test.YtkhdiakpdafcdaaGreatDoorPnc
import Derived.Test.YtkhdiakpdafcdaaGreatDoorPnd
import Derived.Test.YtkhdiakpdafcdaaGreatDoorPne
import Derived.Test.YtkhdiakpdafcdaaGreatDoorPnf
import Derived.Test.YtkhdiakpdafcdaaGreatDoorPng
import Derived.Test.YtkhdiakpdafcdaaGreatDoorPnh
import Derived.Test.YtkhdiakpdafcdaaGreatDoorPni
import Derived.Test.YtkhdiakpdafcdaaGreatDoorPnj
import Derived.Test.YtkhdiakpdafcdaaGreatDoorPnk
import Derived.Test.YtkhdiakpdafcdaaGreatDoorPnl
import Derived.Test.YtkhdiakpdafcdaaGreatDoorPnm
import Derived.Test.YtkhdiakpdafcdaaGreatDoorPnn
import Derived.Test.YtkhdiakpdafcdaaGreatDoorPno
import Derived.Test.YtkhdiakpdafcdaaGreatDoorPnp
import Derived.Test.YtkhdiakpdafcdaaGreatDoorPnq
import Derived.Test.YtkhdiakpdafcdaaGreatDoorPnr
import Derived.Test.YtkhdiakpdafcdaaGreatDoorPns
import Derived.WalkKit
import Derived.ProofKit
import Derived.OpenShut
import Derived.Deep.DeepHandedRow
import Derived.JoinedCond
import GoSem.PinnedTables
namespace Go.Proofs.YtkhdiakpdafcdaaGreatDoor
open Go.ChangeShapes Go.WideShapes Go.ChangeAt Go.RowKit
set_option linter.unusedVariables false
set_option linter.unusedSimpArgs false
set_option maxRecDepth 100000
theorem interpNil_k0 : (Rows.interpNilRow.wf (OpenSpec.ofChange Rows.interpNilSpec)) = true := by kernel_rfl
theorem interpNil_k1 : (laidOutB Tryz.prog) = true := by kernel_rfl
theorem interpNil_k2 : (mapsRowed Tryz.prog) = true := by kernel_rfl
theorem interpNil_k3 : (Tryz.f9.params.all (Tryz.prog.readableRec ·)) = true := by kernel_rfl
theorem interpNil_k4 : (namedTie Tryz.prog Rows.interpNilRow.named Rows.interpNilSpec.vars) = true := by kernel_rfl
theorem interpNil_k5 : ((Rows.interpNilRow.stops == [])) = true := by kernel_rfl
theorem interpNil_k6 : ((Tryz.prog.stops == [])) = true := by kernel_rfl
theorem interpNil_k7 : ((Rows.interpNilRow.knobs == [])) = true := by kernel_rfl
theorem interpNil_k8 : ((Tryz.prog.stopKnobs == [])) = true := by kernel_rfl
theorem interpNil_k9 : ((Rows.interpNilRow.inPlace == Tryz.prog.inPlace 9)) = true := by kernel_rfl
theorem interpNil_k10 : ((Rows.interpNilRow.unfollowed == Tryz.prog.unfollowed 9)) = true := by kernel_rfl
theorem interpNil_k11 : ((Rows.interpNilRow.recurses == Tryz.prog.recurses 9)) = true := by kernel_rfl
theorem interpNil_k12 : ((Rows.interpNilRow.named == Tryz.prog.varsNamed 9)) = true := by kernel_rfl
theorem interpNil_k13 : ((Rows.interpNilRow.maps == (Tryz.f9.params.toList ++ Rows.interpNilSpec.plain.varTypes Tryz.prog).any (Tryz.prog.mapsRec ·))) = true := by kernel_rfl
theorem interpNil_k14 : ((Rows.interpNilRow.ifaces == (Tryz.f9.params.toList ++ Rows.interpNilSpec.plain.varTypes Tryz.prog).any (Tryz.prog.ifacesRec ·))) = true := by kernel_rfl
theorem interpNil_k15 : ((Rows.interpNilRow.mapsOut == Tryz.prog.mapsAmong Tryz.f9.resultTypes.toList)) = true := by kernel_rfl
theorem interpNil_k16 : ((Rows.interpNilRow.loops == (Tryz.f9.params.toList ++ Rows.interpNilSpec.plain.varTypes Tryz.prog).any (Tryz.prog.loopsFrom ·))) = true := by kernel_rfl
theorem interpNil_k17 : ((Rows.interpNilRow.wideKeys == (Tryz.f9.params.toList ++ Rows.interpNilSpec.plain.varTypes Tryz.prog ++ Tryz.f9.resultTypes.toList).any (Tryz.prog.wideKeysFrom ·))) = true := by kernel_rfl
theorem interpNil_k18 : (Rows.interpNilSpec.vars.all (Tryz.prog.varReadable ·)) = true := by kernel_rfl
theorem interpNil_k19 : (Tryz.f9.resultTypes.all (fun t => Tryz.prog.readableRec t && decide (t < Tryz.prog.types.size))) = true := by kernel_rfl
theorem interpNil_k20 : ((Rows.interpNilRow.ifacesOut == Tryz.f9.resultTypes.toList.any (Tryz.prog.ifacesRec ·))) = true := by kernel_rfl
theorem interpNil_k21 : ((Rows.interpNilRow.loopsOut == Tryz.f9.resultTypes.toList.any (Tryz.prog.loopsFrom ·))) = true := by kernel_rfl
theorem interpNil_k22 : ((Rows.interpNilRow.plainKeys == Tryz.prog.plainKeys)) = true := by kernel_rfl
theorem interpNil_k23 : (Rows.interpNilRow.shortTexts.isNone) = true := by kernel_rfl
theorem interpNil_k24 : (Tryz.prog.stopsHeard) = true := by kernel_rfl
theorem interpNil_k25 : (Tryz.prog.mayEnter) = true := mayEnter_of Tryz.prog (behindMainWord (wordsSigns initSigns)) (congrArg (fun l => behindMainWord (wordsSigns l)) initL) initStrip1 initStrip2 initLays initReflect initDoors
theorem interpNil_k26 : ((Rows.interpNilRow.lifted == Tryz.prog.liftsFinal)) = true := beq_of (liftsFinal_of Tryz.prog (behindMainWord (wordsSigns initSigns)) (congrArg (fun l => behindMainWord (wordsSigns l)) initL) initStrip1 initHead)
theorem interpNil_k27 : ((Tryz.prog.make == some Rows.interpNilRow.make)) = true := by rw [make_of Tryz.prog (behindMainWord (wordsSigns initSigns)) (congrArg (fun l => behindMainWord (wordsSigns l)) initL) initHead]; rfl
theorem interpNil_k28 : ((Rows.interpNilRow.kinds == [])) = true := by kernel_rfl
theorem interpNil_k29 : ((Rows.interpNilRow.pinned == Rows.interpNilRow.pinnedBy)) = true := by kernel_rfl
theorem interpNil_k30 : ((Rows.interpNilRow.veiled == (Tryz.f9.params.toList ++ Rows.interpNilSpec.plain.varTypes Tryz.prog ++ Tryz.f9.resultTypes.toList).any (Tryz.prog.veiledRec ·))) = true := by kernel_rfl
theorem interpNil_k31 : (Rows.interpNilRow.veiledFits Tryz.prog Tryz.f9.params.toList (Tryz.f9.params.toList ++ Rows.interpNilSpec.plain.varTypes Tryz.prog ++ Tryz.f9.resultTypes.toList)) = true := by kernel_rfl
theorem interpNil_dom : (Rows.interpNilRow.domain.isEmpty) = true := by kernel_rfl
theorem interpNil_join : joinedFacts Tryz.prog 9 Tryz.f9 Rows.interpNilSpec Rows.interpNilRow = true :=
  join_of interpNil_dom interpNil_k0 interpNil_k1 interpNil_k2 interpNil_k3 interpNil_k4 interpNil_k5 interpNil_k6 interpNil_k7 interpNil_k8 interpNil_k9 interpNil_k10 interpNil_k11 interpNil_k12 interpNil_k13 interpNil_k14 interpNil_k15 interpNil_k16 interpNil_k17 interpNil_k18 interpNil_k19 interpNil_k20 interpNil_k21 interpNil_k22 interpNil_k23 interpNil_k24 interpNil_k25 interpNil_k26 interpNil_k27 interpNil_k28 interpNil_k29 interpNil_k30 interpNil_k31
/-- A variable's cells, as they are laid. -/
def layAt (h : Array Obj) (i : Nat) (cs : Array Value) : Array Obj := h.modify i fun
  | .cells _ t z => .cells cs t z
  | o => o
def interpNil_t4 : Array Value := #[.int .u8 0, .int .u8 1, .int .u8 28, .int .u8 2, .int .u8 29, .int .u8 14, .int .u8 24, .int .u8 3, .int .u8 30, .int .u8 22, .int .u8 20, .int .u8 15, .int .u8 25, .int .u8 17, .int .u8 4, .int .u8 8, .int .u8 31, .int .u8 27, .int .u8 13, .int .u8 23, .int .u8 21, .int .u8 19, .int .u8 16, .int .u8 7, .int .u8 26, .int .u8 12, .int .u8 18, .int .u8 6, .int .u8 11, .int .u8 5, .int .u8 10, .int .u8 9]
def interpNil_t5 : Array Value := #[.int .u8 0, .int .u8 1, .int .u8 56, .int .u8 2, .int .u8 57, .int .u8 49, .int .u8 28, .int .u8 3, .int .u8 61, .int .u8 58, .int .u8 42, .int .u8 50, .int .u8 38, .int .u8 29, .int .u8 17, .int .u8 4, .int .u8 62, .int .u8 47, .int .u8 59, .int .u8 36, .int .u8 45, .int .u8 43, .int .u8 51, .int .u8 22, .int .u8 53, .int .u8 39, .int .u8 33, .int .u8 30, .int .u8 24, .int .u8 18, .int .u8 12, .int .u8 5, .int .u8 63, .int .u8 55, .int .u8 48, .int .u8 27, .int .u8 60, .int .u8 41, .int .u8 37, .int .u8 16, .int .u8 46, .int .u8 35, .int .u8 44, .int .u8 21, .int .u8 52, .int .u8 32, .int .u8 23, .int .u8 11, .int .u8 54, .int .u8 26, .int .u8 40, .int .u8 15, .int .u8 34, .int .u8 20, .int .u8 31, .int .u8 10, .int .u8 25, .int .u8 14, .int .u8 19, .int .u8 9, .int .u8 13, .int .u8 8, .int .u8 7, .int .u8 6]
def interpNil_t3 : Array Value := #[.int .u64 1, .int .u64 10, .int .u64 100, .int .u64 1000, .int .u64 10000, .int .u64 100000, .int .u64 1000000, .int .u64 10000000, .int .u64 100000000, .int .u64 1000000000, .int .u64 10000000000, .int .u64 100000000000, .int .u64 1000000000000, .int .u64 10000000000000, .int .u64 100000000000000, .int .u64 1000000000000000, .int .u64 10000000000000000, .int .u64 100000000000000000, .int .u64 1000000000000000000, .int .u64 10000000000000000000]
def interpNil_t1 : Array Value := #[.int .u8 128, .int .u8 191, .int .u8 160, .int .u8 191, .int .u8 128, .int .u8 159, .int .u8 144, .int .u8 191, .int .u8 128, .int .u8 143, .int .u8 0, .int .u8 0, .int .u8 0, .int .u8 0, .int .u8 0, .int .u8 0, .int .u8 0, .int .u8 0, .int .u8 0, .int .u8 0, .int .u8 0, .int .u8 0, .int .u8 0, .int .u8 0, .int .u8 0, .int .u8 0, .int .u8 0, .int .u8 0, .int .u8 0, .int .u8 0, .int .u8 0, .int .u8 0]
def interpNil_t0 : Array Value := (Go.Pinned.utf8FirstZ.map fun (z : Nat) => Value.int .u8 (z : Int)).toArray
noncomputable def interpNil_world (os : Os) : World := { World.holding Tryz.prog os ⟨#[], #[], []⟩ with heap := layAt (layAt (layAt (layAt (layAt ((World.holding Tryz.prog os ⟨#[], #[], []⟩).heap) 4 interpNil_t4) 5 interpNil_t5) 3 interpNil_t3) 1 interpNil_t1) 0 interpNil_t0 }
theorem interpNil_met (os : Os) : laidMet Tryz.prog Rows.interpNilRow.laid ((interpNil_world os).forCall (fun _ _ => 0) ⟨#[], #[], []⟩).memory :=
  laidMet_of_run' 8 (by kernel_rfl) (by kernel_rfl)
theorem interpNil_reads (os : Os) {H : Type} (enc : TypeId × Value → H) : ∃ places, DataW.whole enc Tryz.prog ((interpNil_world os).forCall (fun _ _ => 0) ⟨#[], #[], []⟩).memory Tryz.f9.params.toList Rows.interpNilSpec.vars false (#[] : Array Value).toList 8 = some ([], [], places) :=
  ⟨[], by kernel_rfl⟩
theorem interpNil_lifted (os : Os) (started : os.Started) (H : Type) (enc : TypeId × Value → H) (F : Stop.Interp) :
    ReturnsInHanded {} Tryz.checked os 9 .any ((OpenSpec.ofChange Rows.interpNilSpec).preRow enc Tryz.prog Tryz.f9 Rows.interpNilRow.domain false Rows.interpNilRow.laid) (((OpenSpec.ofChange Rows.interpNilSpec).at F).post enc Tryz.prog Tryz.f9 false true false false) := by
  obtain ⟨places, hx⟩ := interpNil_reads os enc
  refine returnsInHanded_of_row (C := Tryz.checked) (s := OpenSpec.ofChange Rows.interpNilSpec) ownNone started (by kernel_rfl) Tryz.func9
    (witness_row_at (enc := enc) (C := Tryz.checked) false (interpNil_world os) #[] rfl (by kernel_rfl) (by kernel_rfl) (by kernel_rfl)
      (OpenSpec.preRow_of_cond 8 hx (by kernel_rfl) (fun k hk => by cases hk) (by kernel_rfl) (interpNil_met os))) ?_
  intro W base args ds gs before hval0 hW _ _ _ hL _ _
  have hW' := hW
  obtain ⟨p, q, hA0, hV, rfl, hfz, hnd⟩ := hW
  have hA : DataW.TrodAll enc Tryz.prog W 0 (fun _ => true) true Tryz.f9.params.toList args.toList ds p := hA0
  rw [Tryz.params9] at hA
  obtain ⟨rfl, rfl, rfl⟩ := trodAll_none hA
  obtain ⟨rfl, rfl⟩ := trodVars_none hV
  clear hA0 hval0
  simp only [List.append_nil] at hW'
  refine (nil13 (libq_of hL)).mono fun e W' ⟨he, hg⟩ => ?_
  subst he
  exact ⟨_, rfl, post_of_below (pa := []) (pv := []) hW' (fun _ _ _ => (trodAll_cons_mk (shut_bool Tryz.underlying4 _) trodAll_mk0)) (fun sp _ => rfl) (fun _ _ => rfl) rfl
    (hg.below fun b _ h => h) (ok_one (by kernel_rfl) rfl (okWide_bool_mk Tryz.underlying4 _))⟩
theorem interpNil_said : Rows.InterpNilSaid :=
  OpenClaim.holds_of_cond 9 Tryz.f9 rfl rfl rfl rfl rfl rfl rfl ⟨rfl, rfl, rfl, rfl, rfl⟩ rfl rfl rfl rfl rfl (by kernel_rfl) Tryz.func9 interpNil_join
    (of_decide_eq_true (by kernel_rfl)) (by unfold Func.isWrapper; first | (rw [if_pos (by decide +kernel)]; kernel_rfl) | (rw [if_neg (by decide +kernel)]; exact ⟨rfl, rfl⟩))
    (fun os started H enc _ F => by rw [OpenClaim.pre_eq_preRow]; exact interpNil_lifted os started H enc F)
theorem interpNil_plain (f : FuncId) (fn : Func) (hf : Tryz.pinned.checked.prog.funcNamed "commonplace/commonplacelaw13.InterpNil" = some f) (hfn : Tryz.pinned.checked.prog.funcs[f]? = some fn) :
    true = Tryz.pinned.checked.prog.looks [] ∧ ∀ (j : Nat) t, fn.params[j]? = some t → Tryz.pinned.checked.prog.wantsStandIn t = false := by
  obtain rfl : f = 9 := Option.some.inj ((show Tryz.prog.funcNamed "commonplace/commonplacelaw13.InterpNil" = some 9 by kernel_rfl).symm.trans hf) |>.symm
  obtain rfl : fn = Tryz.f9 := (Option.some.inj (Tryz.func9.symm.trans hfn)).symm
  refine ⟨by kernel_rfl, fun j t ht => ?_⟩
  have hp : Tryz.f9.params = #[] := by kernel_rfl
  rw [hp] at ht
  simp at ht
theorem interpNil_card : Rows.InterpNilCardSaid :=
  Claim7.holds_tied_plain_at .later [] _ _ _ _ interpNil_said (fun _ h => by cases h) (by kernel_rfl) (fun _ h => by cases h) interpNil_row_tie rfl ⟨rfl, rfl⟩ (by kernel_rfl) rfl interpNil_plain (by kernel_rfl)
#print axioms interpNil_card
end Go.Proofs.YtkhdiakpdafcdaaGreatDoor
