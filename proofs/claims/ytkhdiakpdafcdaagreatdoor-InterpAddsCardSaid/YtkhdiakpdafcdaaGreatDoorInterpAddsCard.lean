/- The statement InterpAdds, and its tied card. -/
import Derived.Test.YtkhdiakpdafcdaaGreatDoorCards
import Derived.Test.YtkhdiakpdafcdaaGreatDoorTie
import Derived.Test.YtkhdiakpdafcdaaGreatDoorPnFacts
import Derived.Test.YtkhdiakpdafcdaaGreatDoorPna
import Derived.Test.YtkhdiakpdafcdaaGreatDoorPnb
import Derived.Test.YtkhdiakpdafcdaaGreatDoorPnc
import Derived.Test.YtkhdiakpdafcdaaGreatDoorPnd
import Derived.Test.YtkhdiakpdafcdaaGreatDoorPne
import Derived.Test.YtkhdiakpdafcdaaGreatDoorPnf
import Derived.Test.YtkhdiakpdafcdaaGreatDoorPng
import Derived.Test.YtkhdiakpdafcdaaGreatDoorPnh
import Derived.Test.YtkhdiakpdafcdaaGreatDoorPni
import Derived.Test.YtkhdiakpdafcdaaGreatDoorPnj
import Derived.Test.YtkhdiakpdafcdaaGreatDoorPnk
import Derived.Test.YtkhdiakpdafcdaaGreatDoorPnl
import Derived.Test.YtkhdiakpdafcdaaGreatDoorPnm
import Derived.Test.YtkhdiakpdafcdaaGreatDoorPnn
import Derived.Test.YtkhdiakpdafcdaaGreatDoorPno
import Derived.Test.YtkhdiakpdafcdaaGreatDoorPnp
import Derived.Test.YtkhdiakpdafcdaaGreatDoorPnq
import Derived.Test.YtkhdiakpdafcdaaGreatDoorPnr
import Derived.Test.YtkhdiakpdafcdaaGreatDoorPns
import Derived.WalkKit
import Derived.ProofKit
import Derived.OpenShut
import Derived.ShutString
import Derived.Deep.DeepHandedRow
import Derived.Deep.CondSized
import Derived.JoinedCond
import GoSem.PinnedTables
namespace Go.Proofs.YtkhdiakpdafcdaaGreatDoor
open Go.ChangeShapes Go.WideShapes Go.ChangeAt Go.RowKit
open Go.ChangeMaps (open_string shut_string)
set_option linter.unusedVariables false
set_option linter.unusedSimpArgs false
set_option linter.unnecessarySimpa false
set_option maxRecDepth 100000
theorem interpAdds_k0 : (Rows.interpAddsRow.wf (OpenSpec.ofChange Rows.interpAddsSpec)) = true := by kernel_rfl
theorem interpAdds_k1 : (laidOutB Tryz.prog) = true := by kernel_rfl
theorem interpAdds_k2 : (mapsRowed Tryz.prog) = true := by kernel_rfl
theorem interpAdds_k3 : (Tryz.f6.params.all (Tryz.prog.readableRec ·)) = true := by kernel_rfl
theorem interpAdds_k4 : (namedTie Tryz.prog Rows.interpAddsRow.named Rows.interpAddsSpec.vars) = true := by kernel_rfl
theorem interpAdds_k5 : ((Rows.interpAddsRow.stops == [])) = true := by kernel_rfl
theorem interpAdds_k6 : ((Tryz.prog.stops == [])) = true := by kernel_rfl
theorem interpAdds_k7 : ((Rows.interpAddsRow.knobs == [])) = true := by kernel_rfl
theorem interpAdds_k8 : ((Tryz.prog.stopKnobs == [])) = true := by kernel_rfl
theorem interpAdds_k9 : ((Rows.interpAddsRow.inPlace == Tryz.prog.inPlace 6)) = true := by kernel_rfl
theorem interpAdds_k10 : ((Rows.interpAddsRow.unfollowed == Tryz.prog.unfollowed 6)) = true := by kernel_rfl
theorem interpAdds_k11 : ((Rows.interpAddsRow.recurses == Tryz.prog.recurses 6)) = true := by kernel_rfl
theorem interpAdds_k12 : ((Rows.interpAddsRow.named == Tryz.prog.varsNamed 6)) = true := by kernel_rfl
theorem interpAdds_k13 : ((Rows.interpAddsRow.maps == (Tryz.f6.params.toList ++ Rows.interpAddsSpec.plain.varTypes Tryz.prog).any (Tryz.prog.mapsRec ·))) = true := by kernel_rfl
theorem interpAdds_k14 : ((Rows.interpAddsRow.ifaces == (Tryz.f6.params.toList ++ Rows.interpAddsSpec.plain.varTypes Tryz.prog).any (Tryz.prog.ifacesRec ·))) = true := by kernel_rfl
theorem interpAdds_k15 : ((Rows.interpAddsRow.mapsOut == Tryz.prog.mapsAmong Tryz.f6.resultTypes.toList)) = true := by kernel_rfl
theorem interpAdds_k16 : ((Rows.interpAddsRow.loops == (Tryz.f6.params.toList ++ Rows.interpAddsSpec.plain.varTypes Tryz.prog).any (Tryz.prog.loopsFrom ·))) = true := by kernel_rfl
theorem interpAdds_k17 : ((Rows.interpAddsRow.wideKeys == (Tryz.f6.params.toList ++ Rows.interpAddsSpec.plain.varTypes Tryz.prog ++ Tryz.f6.resultTypes.toList).any (Tryz.prog.wideKeysFrom ·))) = true := by kernel_rfl
theorem interpAdds_k18 : (Rows.interpAddsSpec.vars.all (Tryz.prog.varReadable ·)) = true := by kernel_rfl
theorem interpAdds_k19 : (Tryz.f6.resultTypes.all (fun t => Tryz.prog.readableRec t && decide (t < Tryz.prog.types.size))) = true := by kernel_rfl
theorem interpAdds_k20 : ((Rows.interpAddsRow.ifacesOut == Tryz.f6.resultTypes.toList.any (Tryz.prog.ifacesRec ·))) = true := by kernel_rfl
theorem interpAdds_k21 : ((Rows.interpAddsRow.loopsOut == Tryz.f6.resultTypes.toList.any (Tryz.prog.loopsFrom ·))) = true := by kernel_rfl
theorem interpAdds_k22 : ((Rows.interpAddsRow.plainKeys == Tryz.prog.plainKeys)) = true := by kernel_rfl
theorem interpAdds_k23 : (Rows.interpAddsRow.shortTexts.isNone) = true := by kernel_rfl
theorem interpAdds_k24 : (Tryz.prog.stopsHeard) = true := by kernel_rfl
theorem interpAdds_k25 : (Tryz.prog.mayEnter) = true := mayEnter_of Tryz.prog (behindMainWord (wordsSigns initSigns)) (congrArg (fun l => behindMainWord (wordsSigns l)) initL) initStrip1 initStrip2 initLays initReflect initDoors
theorem interpAdds_k26 : ((Rows.interpAddsRow.lifted == Tryz.prog.liftsFinal)) = true := beq_of (liftsFinal_of Tryz.prog (behindMainWord (wordsSigns initSigns)) (congrArg (fun l => behindMainWord (wordsSigns l)) initL) initStrip1 initHead)
theorem interpAdds_k27 : ((Tryz.prog.make == some Rows.interpAddsRow.make)) = true := by rw [make_of Tryz.prog (behindMainWord (wordsSigns initSigns)) (congrArg (fun l => behindMainWord (wordsSigns l)) initL) initHead]; rfl
theorem interpAdds_k28 : ((Rows.interpAddsRow.kinds == [])) = true := by kernel_rfl
theorem interpAdds_k29 : ((Rows.interpAddsRow.pinned == Rows.interpAddsRow.pinnedBy)) = true := by kernel_rfl
theorem interpAdds_k30 : ((Rows.interpAddsRow.veiled == (Tryz.f6.params.toList ++ Rows.interpAddsSpec.plain.varTypes Tryz.prog ++ Tryz.f6.resultTypes.toList).any (Tryz.prog.veiledRec ·))) = true := by kernel_rfl
theorem interpAdds_k31 : (Rows.interpAddsRow.veiledFits Tryz.prog Tryz.f6.params.toList (Tryz.f6.params.toList ++ Rows.interpAddsSpec.plain.varTypes Tryz.prog ++ Tryz.f6.resultTypes.toList)) = true := by kernel_rfl
theorem interpAdds_dom : (Rows.interpAddsRow.domain.isEmpty) = true := by kernel_rfl
theorem interpAdds_join : joinedFacts Tryz.prog 6 Tryz.f6 Rows.interpAddsSpec Rows.interpAddsRow = true :=
  join_of interpAdds_dom interpAdds_k0 interpAdds_k1 interpAdds_k2 interpAdds_k3 interpAdds_k4 interpAdds_k5 interpAdds_k6 interpAdds_k7 interpAdds_k8 interpAdds_k9 interpAdds_k10 interpAdds_k11 interpAdds_k12 interpAdds_k13 interpAdds_k14 interpAdds_k15 interpAdds_k16 interpAdds_k17 interpAdds_k18 interpAdds_k19 interpAdds_k20 interpAdds_k21 interpAdds_k22 interpAdds_k23 interpAdds_k24 interpAdds_k25 interpAdds_k26 interpAdds_k27 interpAdds_k28 interpAdds_k29 interpAdds_k30 interpAdds_k31
/-- A variable's cells, as they are laid. -/
def layAt (h : Array Obj) (i : Nat) (cs : Array Value) : Array Obj := h.modify i fun
  | .cells _ t z => .cells cs t z
  | o => o
def interpAdds_t4 : Array Value := #[.int .u8 0, .int .u8 1, .int .u8 28, .int .u8 2, .int .u8 29, .int .u8 14, .int .u8 24, .int .u8 3, .int .u8 30, .int .u8 22, .int .u8 20, .int .u8 15, .int .u8 25, .int .u8 17, .int .u8 4, .int .u8 8, .int .u8 31, .int .u8 27, .int .u8 13, .int .u8 23, .int .u8 21, .int .u8 19, .int .u8 16, .int .u8 7, .int .u8 26, .int .u8 12, .int .u8 18, .int .u8 6, .int .u8 11, .int .u8 5, .int .u8 10, .int .u8 9]
def interpAdds_t5 : Array Value := #[.int .u8 0, .int .u8 1, .int .u8 56, .int .u8 2, .int .u8 57, .int .u8 49, .int .u8 28, .int .u8 3, .int .u8 61, .int .u8 58, .int .u8 42, .int .u8 50, .int .u8 38, .int .u8 29, .int .u8 17, .int .u8 4, .int .u8 62, .int .u8 47, .int .u8 59, .int .u8 36, .int .u8 45, .int .u8 43, .int .u8 51, .int .u8 22, .int .u8 53, .int .u8 39, .int .u8 33, .int .u8 30, .int .u8 24, .int .u8 18, .int .u8 12, .int .u8 5, .int .u8 63, .int .u8 55, .int .u8 48, .int .u8 27, .int .u8 60, .int .u8 41, .int .u8 37, .int .u8 16, .int .u8 46, .int .u8 35, .int .u8 44, .int .u8 21, .int .u8 52, .int .u8 32, .int .u8 23, .int .u8 11, .int .u8 54, .int .u8 26, .int .u8 40, .int .u8 15, .int .u8 34, .int .u8 20, .int .u8 31, .int .u8 10, .int .u8 25, .int .u8 14, .int .u8 19, .int .u8 9, .int .u8 13, .int .u8 8, .int .u8 7, .int .u8 6]
def interpAdds_t3 : Array Value := #[.int .u64 1, .int .u64 10, .int .u64 100, .int .u64 1000, .int .u64 10000, .int .u64 100000, .int .u64 1000000, .int .u64 10000000, .int .u64 100000000, .int .u64 1000000000, .int .u64 10000000000, .int .u64 100000000000, .int .u64 1000000000000, .int .u64 10000000000000, .int .u64 100000000000000, .int .u64 1000000000000000, .int .u64 10000000000000000, .int .u64 100000000000000000, .int .u64 1000000000000000000, .int .u64 10000000000000000000]
def interpAdds_t1 : Array Value := #[.int .u8 128, .int .u8 191, .int .u8 160, .int .u8 191, .int .u8 128, .int .u8 159, .int .u8 144, .int .u8 191, .int .u8 128, .int .u8 143, .int .u8 0, .int .u8 0, .int .u8 0, .int .u8 0, .int .u8 0, .int .u8 0, .int .u8 0, .int .u8 0, .int .u8 0, .int .u8 0, .int .u8 0, .int .u8 0, .int .u8 0, .int .u8 0, .int .u8 0, .int .u8 0, .int .u8 0, .int .u8 0, .int .u8 0, .int .u8 0, .int .u8 0, .int .u8 0]
def interpAdds_t0 : Array Value := (Go.Pinned.utf8FirstZ.map fun (z : Nat) => Value.int .u8 (z : Int)).toArray
noncomputable def interpAdds_world (os : Os) : World := { World.holding Tryz.prog os ⟨#[], #[], []⟩ with heap := layAt (layAt (layAt (layAt (layAt ((World.holding Tryz.prog os ⟨#[], #[], []⟩).heap) 4 interpAdds_t4) 5 interpAdds_t5) 3 interpAdds_t3) 1 interpAdds_t1) 0 interpAdds_t0 }
theorem interpAdds_met (os : Os) : laidMet Tryz.prog Rows.interpAddsRow.laid ((interpAdds_world os).forCall (fun _ _ => 0) ⟨#[], #[.int .i64 0, .int .i64 0, .bool false], []⟩).memory :=
  laidMet_of_run' 8 (by kernel_rfl) (by kernel_rfl)
theorem interpAdds_reads0 (os : Os) {H : Type} (enc : TypeId × Value → H) : ∃ places, DataW.whole enc Tryz.prog ((interpAdds_world os).forCall (fun _ _ => 0) ⟨#[], #[.int .i64 0, .int .i64 0, .bool false], []⟩).memory Tryz.f6.params.toList (OpenSpec.ofChange Rows.interpAddsSpec).vars false (#[.int .i64 0, .int .i64 0, .bool false] : Array Value).toList 8 = some ([.lit (.int .i64 0), .lit (.int .i64 0), .lit (.bool false)], [], places) :=
  ⟨[], by kernel_rfl⟩
theorem interpAdds_reads : ∀ t ∈ Tryz.f6.params.toList, Tryz.prog.readableRec t = true ∧ t < Tryz.prog.types.size := by
  have h : (Tryz.f6.params.toList.all fun t => Tryz.prog.readableRec t && decide (t < Tryz.prog.types.size)) = true := by kernel_rfl
  intro t ht
  simpa using List.all_eq_true.1 h t ht
theorem interpAdds_lifted (os : Os) (started : os.Started) (H : Type) (enc : TypeId × Value → H) (F : Stop.Interp) :
    ReturnsInHanded {} Tryz.checked os 6 .any ((OpenSpec.ofChange Rows.interpAddsSpec).preRow enc Tryz.prog Tryz.f6 Rows.interpAddsRow.domain false Rows.interpAddsRow.laid) (((OpenSpec.ofChange Rows.interpAddsSpec).at F).post enc Tryz.prog Tryz.f6 false true false false) := by
  obtain ⟨places, hx⟩ := interpAdds_reads0 os enc
  refine returnsInHanded_of_row (C := Tryz.checked) (s := OpenSpec.ofChange Rows.interpAddsSpec) ownNone started (by kernel_rfl) Tryz.func6
    (witness_row_at (enc := enc) (C := Tryz.checked) false (interpAdds_world os) #[.int .i64 0, .int .i64 0, .bool false] rfl (by kernel_rfl) (by kernel_rfl) (by kernel_rfl)
      (OpenSpec.preRow_of_cond 8 hx (by kernel_rfl) (fun k hk => by cases hk) (by kernel_rfl) (interpAdds_met os))) ?_
  intro W base args ds gs before hval0 hW _ hcond hwt hL _ _
  have hval : ∀ (j : Nat) t v, Tryz.f6.params[j]? = some t → args[j]? = some v → Value.okWide Tryz.prog W .any base t v := hval0
  have hW' := hW
  obtain ⟨p, q, hA0, hV, rfl, hfz, hnd⟩ := hW
  have hA : DataW.TrodAll enc Tryz.prog W 0 (fun _ => true) true Tryz.f6.params.toList args.toList ds p := hA0
  have hA1 := hA
  rw [Tryz.params6] at hA hval
  obtain ⟨v0, vs0, d0, ds0, p0, q0, hargs, rfl, rfl, h0, r0⟩ := trodAll_cons hA
  obtain ⟨v1, vs1, d1, ds1, p1, q1, rfl, rfl, rfl, h1, r1⟩ := trodAll_cons r0
  obtain ⟨v2, vs2, d2, ds2, p2, q2, rfl, rfl, rfl, h2, r2⟩ := trodAll_cons r1
  obtain ⟨rfl, rfl, rfl⟩ := trodAll_nil r2
  obtain rfl : args = #[v0, v1, v2] := by cases args; simp_all
  obtain ⟨rfl, rfl⟩ := trodVars_none hV
  clear hA0 hval0 hargs
  obtain ⟨a0, rfl, rfl, rfl, hr0⟩ := open_int Tryz.underlying2 (hval 0 2 v0 rfl rfl) h0
  obtain ⟨a1, rfl, rfl, rfl, hr1⟩ := open_int Tryz.underlying2 (hval 1 2 v1 rfl rfl) h1
  obtain ⟨a2, rfl, rfl, rfl⟩ := open_bool Tryz.underlying4 (hval 2 4 v2 rfl rfl) h2
  refine (adds13_w hr0 hr1 (libq_of hL)).mono fun e W' ⟨he, hg⟩ => ?_
  subst he
  have hB : Below W.heap.size W W' := hg.below fun b _ h => h
  have hlt := DataW.Whole.lt hW'
  exact ⟨_, rfl, post_of_below (pv := []) hW' (fun _ _ _ => (trodAll_cons_mk (shut_bool Tryz.underlying4 _) trodAll_mk0)) (fun sp hsp => trodAll_stays interpAdds_k1 hB sp interpAdds_reads hA1 (fun z hz => hlt z (by simpa using hz)) (fun z hz => hsp z (by simpa using hz))) (fun _ _ => rfl) rfl
    hB (ok_one (by kernel_rfl) rfl (okWide_bool_mk Tryz.underlying4 _))⟩
theorem interpAdds_said : Rows.InterpAddsSaid :=
  OpenClaim.holds_of_cond 6 Tryz.f6 rfl rfl rfl rfl rfl rfl rfl ⟨rfl, rfl, rfl, rfl, rfl⟩ rfl rfl rfl rfl rfl (by kernel_rfl) Tryz.func6 interpAdds_join
    (of_decide_eq_true (by kernel_rfl)) (by unfold Func.isWrapper; first | (rw [if_pos (by decide +kernel)]; kernel_rfl) | (rw [if_neg (by decide +kernel)]; exact ⟨rfl, rfl⟩))
    (fun os started H enc _ F => by rw [OpenClaim.pre_eq_preRow]; exact interpAdds_lifted os started H enc F)
theorem interpAdds_plain (f : FuncId) (fn : Func) (hf : Tryz.pinned.checked.prog.funcNamed "commonplace/commonplacelaw13.InterpAdds" = some f) (hfn : Tryz.pinned.checked.prog.funcs[f]? = some fn) :
    true = Tryz.pinned.checked.prog.looks [] ∧ ∀ (j : Nat) t, fn.params[j]? = some t → Tryz.pinned.checked.prog.wantsStandIn t = false := by
  obtain rfl : f = 6 := Option.some.inj ((show Tryz.prog.funcNamed "commonplace/commonplacelaw13.InterpAdds" = some 6 by kernel_rfl).symm.trans hf) |>.symm
  obtain rfl : fn = Tryz.f6 := (Option.some.inj (Tryz.func6.symm.trans hfn)).symm
  refine ⟨by kernel_rfl, fun j t ht => ?_⟩
  have hall : (Tryz.f6.params.toList.all fun t => !Tryz.prog.wantsStandIn t) = true := by kernel_rfl
  have hm : t ∈ Tryz.f6.params.toList := Array.mem_toList_iff.2 (Array.mem_of_getElem? ht)
  have h1 := List.all_eq_true.1 hall t hm
  show Tryz.prog.wantsStandIn t = false
  simpa using h1
theorem interpAdds_card : Rows.InterpAddsCardSaid :=
  Claim7.holds_tied_plain_at .later [] _ _ _ _ interpAdds_said (fun _ h => by cases h) (by kernel_rfl) (fun _ h => by cases h) interpAdds_row_tie rfl ⟨rfl, rfl⟩ (by kernel_rfl) rfl interpAdds_plain (by kernel_rfl)
#print axioms interpAdds_card
end Go.Proofs.YtkhdiakpdafcdaaGreatDoor
