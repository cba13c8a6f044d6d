/- The statement SubsNil: whatever the input, the law answers true, and the input reads as it did; no condition. -/
import Derived.Test.YtohajcflklejjaaGreatPqFacts
import Derived.Test.YtohajcflklejjaaGreatPqa
import Derived.Test.YtohajcflklejjaaGreatPqb
import Derived.Test.YtohajcflklejjaaGreatPqc
import Derived.Test.YtohajcflklejjaaGreatPqd
import Derived.Test.YtohajcflklejjaaGreatPqe
import Derived.Test.YtohajcflklejjaaGreatPqf
import Derived.Test.YtohajcflklejjaaGreatPqg
import Derived.Test.YtohajcflklejjaaGreatPqh
import Derived.Test.YtohajcflklejjaaGreatPqi
import Derived.Test.YtohajcflklejjaaGreatPqj
namespace Go.Proofs.YtohajcflklejjaaGreat
open Go.ChangeShapes Go.WideShapes Go.ChangeAt Go.RowKit
set_option linter.unusedVariables false
set_option linter.unusedSimpArgs false
set_option maxRecDepth 100000
theorem subsNil_k0 : (Rows.subsNilRow.wf (OpenSpec.ofChange Rows.subsNilSpec)) = true := by kernel_rfl
theorem subsNil_k1 : (laidOutB Tryz.prog) = true := by kernel_rfl
theorem subsNil_k2 : (mapsRowed Tryz.prog) = true := by kernel_rfl
theorem subsNil_k3 : (Tryz.f5.params.all (Tryz.prog.readableRec ·)) = true := by kernel_rfl
theorem subsNil_k4 : (namedTie Tryz.prog Rows.subsNilRow.named Rows.subsNilSpec.vars) = true := by kernel_rfl
theorem subsNil_k5 : ((Rows.subsNilRow.stops == [])) = true := by kernel_rfl
theorem subsNil_k6 : ((Tryz.prog.stops == [])) = true := by kernel_rfl
theorem subsNil_k7 : ((Rows.subsNilRow.knobs == [])) = true := by kernel_rfl
theorem subsNil_k8 : ((Tryz.prog.stopKnobs == [])) = true := by kernel_rfl
theorem subsNil_k9 : ((Rows.subsNilRow.inPlace == Tryz.prog.inPlace 5)) = true := by kernel_rfl
theorem subsNil_k10 : ((Rows.subsNilRow.unfollowed == Tryz.prog.unfollowed 5)) = true := by kernel_rfl
theorem subsNil_k11 : ((Rows.subsNilRow.recurses == Tryz.prog.recurses 5)) = true := by kernel_rfl
theorem subsNil_k12 : ((Rows.subsNilRow.named == Tryz.prog.varsNamed 5)) = true := by kernel_rfl
theorem subsNil_k13 : ((Rows.subsNilRow.maps == (Tryz.f5.params.toList ++ Rows.subsNilSpec.plain.varTypes Tryz.prog).any (Tryz.prog.mapsRec ·))) = true := by kernel_rfl
theorem subsNil_k14 : ((Rows.subsNilRow.ifaces == (Tryz.f5.params.toList ++ Rows.subsNilSpec.plain.varTypes Tryz.prog).any (Tryz.prog.ifacesRec ·))) = true := by kernel_rfl
theorem subsNil_k15 : ((Rows.subsNilRow.mapsOut == Tryz.prog.mapsAmong Tryz.f5.resultTypes.toList)) = true := by kernel_rfl
theorem subsNil_k16 : ((Rows.subsNilRow.loops == (Tryz.f5.params.toList ++ Rows.subsNilSpec.plain.varTypes Tryz.prog).any (Tryz.prog.loopsFrom ·))) = true := by kernel_rfl
theorem subsNil_k17 : ((Rows.subsNilRow.wideKeys == (Tryz.f5.params.toList ++ Rows.subsNilSpec.plain.varTypes Tryz.prog ++ Tryz.f5.resultTypes.toList).any (Tryz.prog.wideKeysFrom ·))) = true := by kernel_rfl
theorem subsNil_k18 : (Rows.subsNilSpec.vars.all (Tryz.prog.varReadable ·)) = true := by kernel_rfl
theorem subsNil_k19 : (Tryz.f5.resultTypes.all (fun t => Tryz.prog.readableRec t && decide (t < Tryz.prog.types.size))) = true := by kernel_rfl
theorem subsNil_k20 : ((Rows.subsNilRow.ifacesOut == Tryz.f5.resultTypes.toList.any (Tryz.prog.ifacesRec ·))) = true := by kernel_rfl
theorem subsNil_k21 : ((Rows.subsNilRow.loopsOut == Tryz.f5.resultTypes.toList.any (Tryz.prog.loopsFrom ·))) = true := by kernel_rfl
theorem subsNil_k22 : ((Rows.subsNilRow.plainKeys == Tryz.prog.plainKeys)) = true := by kernel_rfl
theorem subsNil_k23 : (Rows.subsNilRow.shortTexts.isNone) = true := by kernel_rfl
theorem subsNil_k24 : (Tryz.prog.stopsHeard) = true := by kernel_rfl
theorem subsNil_k25 : (Tryz.prog.mayEnter) = true := mayEnter_of Tryz.prog (behindMainWord (wordsSigns initSigns)) (congrArg (fun l => behindMainWord (wordsSigns l)) initL) initStrip1 initStrip2 initLays initReflect initDoors
theorem subsNil_k26 : ((Rows.subsNilRow.lifted == Tryz.prog.liftsFinal)) = true := beq_of (liftsFinal_of Tryz.prog (behindMainWord (wordsSigns initSigns)) (congrArg (fun l => behindMainWord (wordsSigns l)) initL) initStrip1 initHead)
theorem subsNil_k27 : ((Tryz.prog.make == some Rows.subsNilRow.make)) = true := by rw [make_of Tryz.prog (behindMainWord (wordsSigns initSigns)) (congrArg (fun l => behindMainWord (wordsSigns l)) initL) initHead]; rfl
theorem subsNil_k28 : ((Rows.subsNilRow.kinds == [])) = true := by kernel_rfl
theorem subsNil_k29 : ((Rows.subsNilRow.pinned == Rows.subsNilRow.pinnedBy)) = true := by kernel_rfl
theorem subsNil_k30 : ((Rows.subsNilRow.veiled == (Tryz.f5.params.toList ++ Rows.subsNilSpec.plain.varTypes Tryz.prog ++ Tryz.f5.resultTypes.toList).any (Tryz.prog.veiledRec ·))) = true := by kernel_rfl
theorem subsNil_k31 : (Rows.subsNilRow.veiledFits Tryz.prog Tryz.f5.params.toList (Tryz.f5.params.toList ++ Rows.subsNilSpec.plain.varTypes Tryz.prog ++ Tryz.f5.resultTypes.toList)) = true := by kernel_rfl
theorem subsNil_dom : (Rows.subsNilRow.domain.isEmpty) = true := by kernel_rfl
theorem subsNil_join : joinedFacts Tryz.prog 5 Tryz.f5 Rows.subsNilSpec Rows.subsNilRow = true :=
  join_of subsNil_dom subsNil_k0 subsNil_k1 subsNil_k2 subsNil_k3 subsNil_k4 subsNil_k5 subsNil_k6 subsNil_k7 subsNil_k8 subsNil_k9 subsNil_k10 subsNil_k11 subsNil_k12 subsNil_k13 subsNil_k14 subsNil_k15 subsNil_k16 subsNil_k17 subsNil_k18 subsNil_k19 subsNil_k20 subsNil_k21 subsNil_k22 subsNil_k23 subsNil_k24 subsNil_k25 subsNil_k26 subsNil_k27 subsNil_k28 subsNil_k29 subsNil_k30 subsNil_k31
theorem subsNil_lifted (os : Os) (started : os.Started) (H : Type) (enc : TypeId × Value → H) :
    ReturnsInHanded {} Tryz.checked os 5 .any (Rows.subsNilSpec.pre6 enc Tryz.prog Tryz.f5 Rows.subsNilRow.domain false) (Rows.subsNilSpec.post enc Tryz.prog Tryz.f5 false true false false) := by
  refine returnsInHanded_of_change (C := Tryz.checked) ownNone started (by kernel_rfl) Tryz.func5
    (ChangeSpec.witness6 (enc := enc) (C := Tryz.checked) false ⟨#[], #[], []⟩ 8 (by kernel_rfl) (by kernel_rfl) (by kernel_rfl) (by kernel_rfl)) ?_
  intro W base args ds gs before hval0 hW hcnd _
  have hval : ∀ (j : Nat) t v, Tryz.f5.params[j]? = some t → args[j]? = some v → Value.okWide Tryz.prog W .any base t v := hval0
  have hW' := hW
  obtain ⟨p, q, hA0, hV, rfl, hfz, hnd⟩ := hW
  have hA : DataW.TrodAll enc Tryz.prog W 0 (fun _ => true) true Tryz.f5.params.toList args.toList ds p := hA0
  rw [Tryz.params5] at hA hval
  obtain ⟨rfl, rfl, rfl⟩ := trodAll_none hA
  obtain ⟨rfl, rfl⟩ := trodVars_none hV
  clear hA0 hval0
  simp only [List.append_nil] at hW'
  refine (subsnil_w  W).mono fun e W' ⟨he, hg⟩ => ?_
  subst he
  exact ⟨_, rfl, post_of_below (pa := []) (pv := []) hW' (fun _ _ _ => (trodAll_cons_mk (shut_bool Tryz.underlying4 _) trodAll_mk0)) (fun sp _ => rfl) (fun _ _ => rfl) rfl
    hg (ok_one (by kernel_rfl) rfl (okWide_bool_mk Tryz.underlying4 _))⟩

theorem subsNil_holds : Rows.subsNilRow.holds Tryz.pinned (OpenSpec.ofChange Rows.subsNilSpec) :=
  OpenClaim.holds_of_wide 5 Tryz.f5 rfl rfl rfl rfl rfl rfl rfl ⟨rfl, rfl, rfl, rfl, rfl⟩ rfl rfl rfl rfl rfl (by kernel_rfl) Tryz.func5 subsNil_join
    (of_decide_eq_true (by kernel_rfl)) (by unfold Func.isWrapper; first | (rw [if_pos (by decide +kernel)]; kernel_rfl) | (rw [if_neg (by decide +kernel)]; exact ⟨rfl, rfl⟩))
    (fun os started H enc _ => subsNil_lifted os started H enc)
theorem subsNil_said : Rows.SubsNilSaid := subsNil_holds
#print axioms subsNil_said
end Go.Proofs.YtohajcflklejjaaGreat
