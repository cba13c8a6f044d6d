/- The statement InterpAppends, and its tied card. -/
import Derived.Test.YtkhdiakpdafcdaaGreatDoorCards
import Derived.Test.YtkhdiakpdafcdaaGreatDoorTie
import Derived.Test.YtkhdiakpdafcdaaGreatDoorPnFacts
import Derived.Test.YtkhdiakpdafcdaaGreatDoorPna
import Derived.Test.YtkhdiakpdafcdaaGreatDoorPnb
import Derived.Test.YtkhdiakpdafcdaaGreatDoorPnc
import Derived.Test.YtkhdiakpdafcdaaGreatDoorPnd
import Derived.Test.YtkhdiakpdafcdaaGreatDoorPne
import Derived.Test.YtkhdiakpdafcdaaGreatDoorPnf
import Derived.Test.YtkhdiakpdafcdaaGreatDoorPng
import Derived.Test.YtkhdiakpdafcdaaGreatDoorPnh
import Derived.Test.YtkhdiakpdafcdaaGreatDoorPni
import Derived.Test.YtkhdiakpdafcdaaGreatDoorPnj
import Derived.Test.YtkhdiakpdafcdaaGreatDoorPnk
import Derived.Test.YtkhdiakpdafcdaaGreatDoorPnl
import Derived.Test.YtkhdiakpdafcdaaGreatDoorPnm
import Derived.Test.YtkhdiakpdafcdaaGreatDoorPnn
import Derived.Test.YtkhdiakpdafcdaaGreatDoorPno
import Derived.Test.YtkhdiakpdafcdaaGreatDoorPnp
import Derived.Test.YtkhdiakpdafcdaaGreatDoorPnq
import Derived.Test.YtkhdiakpdafcdaaGreatDoorPnr
import Derived.Test.YtkhdiakpdafcdaaGreatDoorPns
import Derived.WalkKit
import Derived.ProofKit
import Derived.OpenShut
import Derived.ShutString
import Derived.Deep.DeepHandedRow
import Derived.Deep.CondSized
import Derived.JoinedCond
import GoSem.PinnedTables
namespace Go.Proofs.YtkhdiakpdafcdaaGreatDoor
open Go.ChangeShapes Go.WideShapes Go.ChangeAt Go.RowKit
open Go.ChangeMaps (open_string shut_string)
set_option linter.unusedVariables false
set_option linter.unusedSimpArgs false
set_option linter.unnecessarySimpa false
set_option maxRecDepth 100000
theorem interpAppends_k0 : (Rows.interpAppendsRow.wf (OpenSpec.ofChange Rows.interpAppendsSpec)) = true := by kernel_rfl
theorem interpAppends_k1 : (laidOutB Tryz.prog) = true := by kernel_rfl
theorem interpAppends_k2 : (mapsRowed Tryz.prog) = true := by kernel_rfl
theorem interpAppends_k3 : (Tryz.f7.params.all (Tryz.prog.readableRec ·)) = true := by kernel_rfl
theorem interpAppends_k4 : (namedTie Tryz.prog Rows.interpAppendsRow.named Rows.interpAppendsSpec.vars) = true := by kernel_rfl
theorem interpAppends_k5 : ((Rows.interpAppendsRow.stops == [])) = true := by kernel_rfl
theorem interpAppends_k6 : ((Tryz.prog.stops == [])) = true := by kernel_rfl
theorem interpAppends_k7 : ((Rows.interpAppendsRow.knobs == [])) = true := by kernel_rfl
theorem interpAppends_k8 : ((Tryz.prog.stopKnobs == [])) = true := by kernel_rfl
theorem interpAppends_k9 : ((Rows.interpAppendsRow.inPlace == Tryz.prog.inPlace 7)) = true := by kernel_rfl
theorem interpAppends_k10 : ((Rows.interpAppendsRow.unfollowed == Tryz.prog.unfollowed 7)) = true := by kernel_rfl
theorem interpAppends_k11 : ((Rows.interpAppendsRow.recurses == Tryz.prog.recurses 7)) = true := by kernel_rfl
theorem interpAppends_k12 : ((Rows.interpAppendsRow.named == Tryz.prog.varsNamed 7)) = true := by kernel_rfl
theorem interpAppends_k13 : ((Rows.interpAppendsRow.maps == (Tryz.f7.params.toList ++ Rows.interpAppendsSpec.plain.varTypes Tryz.prog).any (Tryz.prog.mapsRec ·))) = true := by kernel_rfl
theorem interpAppends_k14 : ((Rows.interpAppendsRow.ifaces == (Tryz.f7.params.toList ++ Rows.interpAppendsSpec.plain.varTypes Tryz.prog).any (Tryz.prog.ifacesRec ·))) = true := by kernel_rfl
theorem interpAppends_k15 : ((Rows.interpAppendsRow.mapsOut == Tryz.prog.mapsAmong Tryz.f7.resultTypes.toList)) = true := by kernel_rfl
theorem interpAppends_k16 : ((Rows.interpAppendsRow.loops == (Tryz.f7.params.toList ++ Rows.interpAppendsSpec.plain.varTypes Tryz.prog).any (Tryz.prog.loopsFrom ·))) = true := by kernel_rfl
theorem interpAppends_k17 : ((Rows.interpAppendsRow.wideKeys == (Tryz.f7.params.toList ++ Rows.interpAppendsSpec.plain.varTypes Tryz.prog ++ Tryz.f7.resultTypes.toList).any (Tryz.prog.wideKeysFrom ·))) = true := by kernel_rfl
theorem interpAppends_k18 : (Rows.interpAppendsSpec.vars.all (Tryz.prog.varReadable ·)) = true := by kernel_rfl
theorem interpAppends_k19 : (Tryz.f7.resultTypes.all (fun t => Tryz.prog.readableRec t && decide (t < Tryz.prog.types.size))) = true := by kernel_rfl
theorem interpAppends_k20 : ((Rows.interpAppendsRow.ifacesOut == Tryz.f7.resultTypes.toList.any (Tryz.prog.ifacesRec ·))) = true := by kernel_rfl
theorem interpAppends_k21 : ((Rows.interpAppendsRow.loopsOut == Tryz.f7.resultTypes.toList.any (Tryz.prog.loopsFrom ·))) = true := by kernel_rfl
theorem interpAppends_k22 : ((Rows.interpAppendsRow.plainKeys == Tryz.prog.plainKeys)) = true := by kernel_rfl
theorem interpAppends_k23 : (Rows.interpAppendsRow.shortTexts.isNone) = true := by kernel_rfl
theorem interpAppends_k24 : (Tryz.prog.stopsHeard) = true := by kernel_rfl
theorem interpAppends_k25 : (Tryz.prog.mayEnter) = true := mayEnter_of Tryz.prog (behindMainWord (wordsSigns initSigns)) (congrArg (fun l => behindMainWord (wordsSigns l)) initL) initStrip1 initStrip2 initLays initReflect initDoors
theorem interpAppends_k26 : ((Rows.interpAppendsRow.lifted == Tryz.prog.liftsFinal)) = true := beq_of (liftsFinal_of Tryz.prog (behindMainWord (wordsSigns initSigns)) (congrArg (fun l => behindMainWord (wordsSigns l)) initL) initStrip1 initHead)
theorem interpAppends_k27 : ((Tryz.prog.make == some Rows.interpAppendsRow.make)) = true := by rw [make_of Tryz.prog (behindMainWord (wordsSigns initSigns)) (congrArg (fun l => behindMainWord (wordsSigns l)) initL) initHead]; rfl
theorem interpAppends_k28 : ((Rows.interpAppendsRow.kinds == [])) = true := by kernel_rfl
theorem interpAppends_k29 : ((Rows.interpAppendsRow.pinned == Rows.interpAppendsRow.pinnedBy)) = true := by kernel_rfl
theorem interpAppends_k30 : ((Rows.interpAppendsRow.veiled == (Tryz.f7.params.toList ++ Rows.interpAppendsSpec.plain.varTypes Tryz.prog ++ Tryz.f7.resultTypes.toList).any (Tryz.prog.veiledRec ·))) = true := by kernel_rfl
theorem interpAppends_k31 : (Rows.interpAppendsRow.veiledFits Tryz.prog Tryz.f7.params.toList (Tryz.f7.params.toList ++ Rows.interpAppendsSpec.plain.varTypes Tryz.prog ++ Tryz.f7.resultTypes.toList)) = true := by kernel_rfl
theorem interpAppends_dom : (Rows.interpAppendsRow.domain.isEmpty) = true := by kernel_rfl
theorem interpAppends_join : joinedFacts Tryz.prog 7 Tryz.f7 Rows.interpAppendsSpec Rows.interpAppendsRow = true :=
  join_of interpAppends_dom interpAppends_k0 interpAppends_k1 interpAppends_k2 interpAppends_k3 interpAppends_k4 interpAppends_k5 interpAppends_k6 interpAppends_k7 interpAppends_k8 interpAppends_k9 interpAppends_k10 interpAppends_k11 interpAppends_k12 interpAppends_k13 interpAppends_k14 interpAppends_k15 interpAppends_k16 interpAppends_k17 interpAppends_k18 interpAppends_k19 interpAppends_k20 interpAppends_k21 interpAppends_k22 interpAppends_k23 interpAppends_k24 interpAppends_k25 interpAppends_k26 interpAppends_k27 interpAppends_k28 interpAppends_k29 interpAppends_k30 interpAppends_k31
/-- A variable's cells, as they are laid. -/
def layAt (h : Array Obj) (i : Nat) (cs : Array Value) : Array Obj := h.modify i fun
  | .cells _ t z => .cells cs t z
  | o => o
def interpAppends_t4 : Array Value := #[.int .u8 0, .int .u8 1, .int .u8 28, .int .u8 2, .int .u8 29, .int .u8 14, .int .u8 24, .int .u8 3, .int .u8 30, .int .u8 22, .int .u8 20, .int .u8 15, .int .u8 25, .int .u8 17, .int .u8 4, .int .u8 8, .int .u8 31, .int .u8 27, .int .u8 13, .int .u8 23, .int .u8 21, .int .u8 19, .int .u8 16, .int .u8 7, .int .u8 26, .int .u8 12, .int .u8 18, .int .u8 6, .int .u8 11, .int .u8 5, .int .u8 10, .int .u8 9]
def interpAppends_t5 : Array Value := #[.int .u8 0, .int .u8 1, .int .u8 56, .int .u8 2, .int .u8 57, .int .u8 49, .int .u8 28, .int .u8 3, .int .u8 61, .int .u8 58, .int .u8 42, .int .u8 50, .int .u8 38, .int .u8 29, .int .u8 17, .int .u8 4, .int .u8 62, .int .u8 47, .int .u8 59, .int .u8 36, .int .u8 45, .int .u8 43, .int .u8 51, .int .u8 22, .int .u8 53, .int .u8 39, .int .u8 33, .int .u8 30, .int .u8 24, .int .u8 18, .int .u8 12, .int .u8 5, .int .u8 63, .int .u8 55, .int .u8 48, .int .u8 27, .int .u8 60, .int .u8 41, .int .u8 37, .int .u8 16, .int .u8 46, .int .u8 35, .int .u8 44, .int .u8 21, .int .u8 52, .int .u8 32, .int .u8 23, .int .u8 11, .int .u8 54, .int .u8 26, .int .u8 40, .int .u8 15, .int .u8 34, .int .u8 20, .int .u8 31, .int .u8 10, .int .u8 25, .int .u8 14, .int .u8 19, .int .u8 9, .int .u8 13, .int .u8 8, .int .u8 7, .int .u8 6]
def interpAppends_t3 : Array Value := #[.int .u64 1, .int .u64 10, .int .u64 100, .int .u64 1000, .int .u64 10000, .int .u64 100000, .int .u64 1000000, .int .u64 10000000, .int .u64 100000000, .int .u64 1000000000, .int .u64 10000000000, .int .u64 100000000000, .int .u64 1000000000000, .int .u64 10000000000000, .int .u64 100000000000000, .int .u64 1000000000000000, .int .u64 10000000000000000, .int .u64 100000000000000000, .int .u64 1000000000000000000, .int .u64 10000000000000000000]
def interpAppends_t1 : Array Value := #[.int .u8 128, .int .u8 191, .int .u8 160, .int .u8 191, .int .u8 128, .int .u8 159, .int .u8 144, .int .u8 191, .int .u8 128, .int .u8 143, .int .u8 0, .int .u8 0, .int .u8 0, .int .u8 0, .int .u8 0, .int .u8 0, .int .u8 0, .int .u8 0, .int .u8 0, .int .u8 0, .int .u8 0, .int .u8 0, .int .u8 0, .int .u8 0, .int .u8 0, .int .u8 0, .int .u8 0, .int .u8 0, .int .u8 0, .int .u8 0, .int .u8 0, .int .u8 0]
def interpAppends_t0 : Array Value := (Go.Pinned.utf8FirstZ.map fun (z : Nat) => Value.int .u8 (z : Int)).toArray
noncomputable def interpAppends_world (os : Os) : World := { World.holding Tryz.prog os ⟨#[], #[], []⟩ with heap := layAt (layAt (layAt (layAt (layAt ((World.holding Tryz.prog os ⟨#[], #[], []⟩).heap) 4 interpAppends_t4) 5 interpAppends_t5) 3 interpAppends_t3) 1 interpAppends_t1) 0 interpAppends_t0 }
theorem interpAppends_met (os : Os) : laidMet Tryz.prog Rows.interpAppendsRow.laid ((interpAppends_world os).forCall (fun _ _ => 0) ⟨#[], #[.int .i64 0, .int .i64 0], []⟩).memory :=
  laidMet_of_run' 8 (by kernel_rfl) (by kernel_rfl)
theorem interpAppends_reads0 (os : Os) {H : Type} (enc : TypeId × Value → H) : ∃ places, DataW.whole enc Tryz.prog ((interpAppends_world os).forCall (fun _ _ => 0) ⟨#[], #[.int .i64 0, .int .i64 0], []⟩).memory Tryz.f7.params.toList (OpenSpec.ofChange Rows.interpAppendsSpec).vars false (#[.int .i64 0, .int .i64 0] : Array Value).toList 8 = some ([.lit (.int .i64 0), .lit (.int .i64 0)], [], places) :=
  ⟨[], by kernel_rfl⟩
theorem interpAppends_reads : ∀ t ∈ Tryz.f7.params.toList, Tryz.prog.readableRec t = true ∧ t < Tryz.prog.types.size := by
  have h : (Tryz.f7.params.toList.all fun t => Tryz.prog.readableRec t && decide (t < Tryz.prog.types.size)) = true := by kernel_rfl
  intro t ht
  simpa using List.all_eq_true.1 h t ht
theorem interpAppends_lifted (os : Os) (started : os.Started) (H : Type) (enc : TypeId × Value → H) (F : Stop.Interp) :
    ReturnsInHanded {} Tryz.checked os 7 .any ((OpenSpec.ofChange Rows.interpAppendsSpec).preRow enc Tryz.prog Tryz.f7 Rows.interpAppendsRow.domain false Rows.interpAppendsRow.laid) (((OpenSpec.ofChange Rows.interpAppendsSpec).at F).post enc Tryz.prog Tryz.f7 false true false false) := by
  obtain ⟨places, hx⟩ := interpAppends_reads0 os enc
  refine returnsInHanded_of_row (C := Tryz.checked) (s := OpenSpec.ofChange Rows.interpAppendsSpec) ownNone started (by kernel_rfl) Tryz.func7
    (witness_row_at (enc := enc) (C := Tryz.checked) false (interpAppends_world os) #[.int .i64 0, .int .i64 0] rfl (by kernel_rfl) (by kernel_rfl) (by kernel_rfl)
      (OpenSpec.preRow_of_cond 8 hx (by kernel_rfl) (fun k hk => by cases hk) (by kernel_rfl) (interpAppends_met os))) ?_
  intro W base args ds gs before hval0 hW _ hcond hwt hL _ _
  have hval : ∀ (j : Nat) t v, Tryz.f7.params[j]? = some t → args[j]? = some v → Value.okWide Tryz.prog W .any base t v := hval0
  have hW' := hW
  obtain ⟨p, q, hA0, hV, rfl, hfz, hnd⟩ := hW
  have hA : DataW.TrodAll enc Tryz.prog W 0 (fun _ => true) true Tryz.f7.params.toList args.toList ds p := hA0
  have hA1 := hA
  rw [Tryz.params7] at hA hval
  obtain ⟨v0, vs0, d0, ds0, p0, q0, hargs, rfl, rfl, h0, r0⟩ := trodAll_cons hA
  obtain ⟨v1, vs1, d1, ds1, p1, q1, rfl, rfl, rfl, h1, r1⟩ := trodAll_cons r0
  obtain ⟨rfl, rfl, rfl⟩ := trodAll_nil r1
  obtain rfl : args = #[v0, v1] := by cases args; simp_all
  obtain ⟨rfl, rfl⟩ := trodVars_none hV
  clear hA0 hval0 hargs
  obtain ⟨a0, rfl, rfl, rfl, hr0⟩ := open_int Tryz.underlying3 (hval 0 3 v0 rfl rfl) h0
  obtain ⟨a1, rfl, rfl, rfl, hr1⟩ := open_int Tryz.underlying3 (hval 1 3 v1 rfl rfl) h1
  refine (apps13_w hr0 hr1 (libq_of hL)).mono fun e W' ⟨he, hg⟩ => ?_
  subst he
  have hB : Below W.heap.size W W' := hg.below fun b _ h => h
  have hlt := DataW.Whole.lt hW'
  exact ⟨_, rfl, post_of_below (pv := []) hW' (fun _ _ _ => (trodAll_cons_mk (shut_bool Tryz.underlying4 _) trodAll_mk0)) (fun sp hsp => trodAll_stays interpAppends_k1 hB sp interpAppends_reads hA1 (fun z hz => hlt z (by simpa using hz)) (fun z hz => hsp z (by simpa using hz))) (fun _ _ => rfl) rfl
    hB (ok_one (by kernel_rfl) rfl (okWide_bool_mk Tryz.underlying4 _))⟩
theorem interpAppends_said : Rows.InterpAppendsSaid :=
  OpenClaim.holds_of_cond 7 Tryz.f7 rfl rfl rfl rfl rfl rfl rfl ⟨rfl, rfl, rfl, rfl, rfl⟩ rfl rfl rfl rfl rfl (by kernel_rfl) Tryz.func7 interpAppends_join
    (of_decide_eq_true (by kernel_rfl)) (by unfold Func.isWrapper; first | (rw [if_pos (by decide +kernel)]; kernel_rfl) | (rw [if_neg (by decide +kernel)]; exact ⟨rfl, rfl⟩))
    (fun os started H enc _ F => by rw [OpenClaim.pre_eq_preRow]; exact interpAppends_lifted os started H enc F)
theorem interpAppends_plain (f : FuncId) (fn : Func) (hf : Tryz.pinned.checked.prog.funcNamed "commonplace/commonplacelaw13.InterpAppends" = some f) (hfn : Tryz.pinned.checked.prog.funcs[f]? = some fn) :
    true = Tryz.pinned.checked.prog.looks [] ∧ ∀ (j : Nat) t, fn.params[j]? = some t → Tryz.pinned.checked.prog.wantsStandIn t = false := by
  obtain rfl : f = 7 := Option.some.inj ((show Tryz.prog.funcNamed "commonplace/commonplacelaw13.InterpAppends" = some 7 by kernel_rfl).symm.trans hf) |>.symm
  obtain rfl : fn = Tryz.f7 := (Option.some.inj (Tryz.func7.symm.trans hfn)).symm
  refine ⟨by kernel_rfl, fun j t ht => ?_⟩
  have hall : (Tryz.f7.params.toList.all fun t => !Tryz.prog.wantsStandIn t) = true := by kernel_rfl
  have hm : t ∈ Tryz.f7.params.toList := Array.mem_toList_iff.2 (Array.mem_of_getElem? ht)
  have h1 := List.all_eq_true.1 hall t hm
  show Tryz.prog.wantsStandIn t = false
  simpa using h1
theorem interpAppends_card : Rows.InterpAppendsCardSaid :=
  Claim7.holds_tied_plain_at .later [] _ _ _ _ interpAppends_said (fun _ h => by cases h) (by kernel_rfl) (fun _ h => by cases h) interpAppends_row_tie rfl ⟨rfl, rfl⟩ (by kernel_rfl) rfl interpAppends_plain (by kernel_rfl)
#print axioms interpAppends_card
end Go.Proofs.YtkhdiakpdafcdaaGreatDoor
