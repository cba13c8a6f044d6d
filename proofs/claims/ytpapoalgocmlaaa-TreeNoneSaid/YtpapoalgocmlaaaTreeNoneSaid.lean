/- The statement TreeNone: whatever the input, the law answers true, and the input reads as it did; no condition. -/
import Derived.Test.YtpapoalgocmlaaaFacts
import Derived.Test.YtpapoalgocmlaaaTreeNoneW
namespace Go.Proofs.Ytpapoalgocmlaaa
open Go.ChangeShapes Go.WideShapes Go.ChangeAt Go.RowKit
set_option linter.unusedVariables false
set_option linter.unusedSimpArgs false
set_option maxRecDepth 100000
theorem treeNone_k0 : (Rows.treeNoneRow.wf (OpenSpec.ofChange Rows.treeNoneSpec)) = true := by kernel_rfl
theorem treeNone_k1 : (laidOutB Try.prog) = true := by kernel_rfl
theorem treeNone_k2 : (mapsRowed Try.prog) = true := by kernel_rfl
theorem treeNone_k3 : (Try.f22.params.all (Try.prog.readableRec ·)) = true := by kernel_rfl
theorem treeNone_k4 : (namedTie Try.prog Rows.treeNoneRow.named Rows.treeNoneSpec.vars) = true := by kernel_rfl
theorem treeNone_k5 : ((Rows.treeNoneRow.stops == [])) = true := by kernel_rfl
theorem treeNone_k6 : ((Try.prog.stops == [])) = true := by kernel_rfl
theorem treeNone_k7 : ((Rows.treeNoneRow.knobs == [])) = true := by kernel_rfl
theorem treeNone_k8 : ((Try.prog.stopKnobs == [])) = true := by kernel_rfl
theorem treeNone_k9 : ((Rows.treeNoneRow.inPlace == Try.prog.inPlace 22)) = true := by kernel_rfl
theorem treeNone_k10 : ((Rows.treeNoneRow.unfollowed == Try.prog.unfollowed 22)) = true := by kernel_rfl
theorem treeNone_k11 : ((Rows.treeNoneRow.recurses == Try.prog.recurses 22)) = true := by kernel_rfl
theorem treeNone_k12 : ((Rows.treeNoneRow.named == Try.prog.varsNamed 22)) = true := by kernel_rfl
theorem treeNone_k13 : ((Rows.treeNoneRow.maps == (Try.f22.params.toList ++ Rows.treeNoneSpec.plain.varTypes Try.prog).any (Try.prog.mapsRec ·))) = true := by kernel_rfl
theorem treeNone_k14 : ((Rows.treeNoneRow.ifaces == (Try.f22.params.toList ++ Rows.treeNoneSpec.plain.varTypes Try.prog).any (Try.prog.ifacesRec ·))) = true := by kernel_rfl
theorem treeNone_k15 : ((Rows.treeNoneRow.mapsOut == Try.prog.mapsAmong Try.f22.resultTypes.toList)) = true := by kernel_rfl
theorem treeNone_k16 : ((Rows.treeNoneRow.loops == (Try.f22.params.toList ++ Rows.treeNoneSpec.plain.varTypes Try.prog).any (Try.prog.loopsFrom ·))) = true := by kernel_rfl
theorem treeNone_k17 : ((Rows.treeNoneRow.wideKeys == (Try.f22.params.toList ++ Rows.treeNoneSpec.plain.varTypes Try.prog ++ Try.f22.resultTypes.toList).any (Try.prog.wideKeysFrom ·))) = true := by kernel_rfl
theorem treeNone_k18 : (Rows.treeNoneSpec.vars.all (Try.prog.varReadable ·)) = true := by kernel_rfl
theorem treeNone_k19 : (Try.f22.resultTypes.all (fun t => Try.prog.readableRec t && decide (t < Try.prog.types.size))) = true := by kernel_rfl
theorem treeNone_k20 : ((Rows.treeNoneRow.ifacesOut == Try.f22.resultTypes.toList.any (Try.prog.ifacesRec ·))) = true := by kernel_rfl
theorem treeNone_k21 : ((Rows.treeNoneRow.loopsOut == Try.f22.resultTypes.toList.any (Try.prog.loopsFrom ·))) = true := by kernel_rfl
theorem treeNone_k22 : ((Rows.treeNoneRow.plainKeys == Try.prog.plainKeys)) = true := by kernel_rfl
theorem treeNone_k23 : (Rows.treeNoneRow.shortTexts.isNone) = true := by kernel_rfl
theorem treeNone_k24 : (Try.prog.stopsHeard) = true := by kernel_rfl
theorem treeNone_k25 : (Try.prog.mayEnter) = true := mayEnter_of Try.prog (behindMainWord (wordsSigns initSigns)) (congrArg (fun l => behindMainWord (wordsSigns l)) initL) initStrip1 initStrip2 initLays initReflect initDoors
theorem treeNone_k26 : ((Rows.treeNoneRow.lifted == Try.prog.liftsFinal)) = true := beq_of (liftsFinal_of Try.prog (behindMainWord (wordsSigns initSigns)) (congrArg (fun l => behindMainWord (wordsSigns l)) initL) initStrip1 initHead)
theorem treeNone_k27 : ((Try.prog.make == some Rows.treeNoneRow.make)) = true := by rw [make_of Try.prog (behindMainWord (wordsSigns initSigns)) (congrArg (fun l => behindMainWord (wordsSigns l)) initL) initHead]; rfl
theorem treeNone_k28 : ((Rows.treeNoneRow.kinds == [])) = true := by kernel_rfl
theorem treeNone_k29 : ((Rows.treeNoneRow.pinned == Rows.treeNoneRow.pinnedBy)) = true := by kernel_rfl
theorem treeNone_k30 : ((Rows.treeNoneRow.veiled == (Try.f22.params.toList ++ Rows.treeNoneSpec.plain.varTypes Try.prog ++ Try.f22.resultTypes.toList).any (Try.prog.veiledRec ·))) = true := by kernel_rfl
theorem treeNone_k31 : (Rows.treeNoneRow.veiledFits Try.prog Try.f22.params.toList (Try.f22.params.toList ++ Rows.treeNoneSpec.plain.varTypes Try.prog ++ Try.f22.resultTypes.toList)) = true := by kernel_rfl
theorem treeNone_dom : (Rows.treeNoneRow.domain.isEmpty) = true := by kernel_rfl
theorem treeNone_join : joinedFacts Try.prog 22 Try.f22 Rows.treeNoneSpec Rows.treeNoneRow = true :=
  join_of treeNone_dom treeNone_k0 treeNone_k1 treeNone_k2 treeNone_k3 treeNone_k4 treeNone_k5 treeNone_k6 treeNone_k7 treeNone_k8 treeNone_k9 treeNone_k10 treeNone_k11 treeNone_k12 treeNone_k13 treeNone_k14 treeNone_k15 treeNone_k16 treeNone_k17 treeNone_k18 treeNone_k19 treeNone_k20 treeNone_k21 treeNone_k22 treeNone_k23 treeNone_k24 treeNone_k25 treeNone_k26 treeNone_k27 treeNone_k28 treeNone_k29 treeNone_k30 treeNone_k31
theorem treeNone_lifted (os : Os) (started : os.Started) (H : Type) (enc : TypeId × Value → H) :
    ReturnsInHanded {} Try.checked os 22 .any (Rows.treeNoneSpec.pre6 enc Try.prog Try.f22 Rows.treeNoneRow.domain false) (Rows.treeNoneSpec.post enc Try.prog Try.f22 false true false false) := by
  refine returnsInHanded_of_change (C := Try.checked) ownNone started (by kernel_rfl) Try.func22
    (ChangeSpec.witness6 (enc := enc) (C := Try.checked) false ⟨#[], #[], []⟩ 8 (by kernel_rfl) (by kernel_rfl) (by kernel_rfl) (by kernel_rfl)) ?_
  intro W base args ds gs before hval0 hW hcnd _
  have hval : ∀ (j : Nat) t v, Try.f22.params[j]? = some t → args[j]? = some v → Value.okWide Try.prog W .any base t v := hval0
  have hW' := hW
  obtain ⟨p, q, hA0, hV, rfl, hfz, hnd⟩ := hW
  have hA : DataW.TrodAll enc Try.prog W 0 (fun _ => true) true Try.f22.params.toList args.toList ds p := hA0
  rw [Try.params22] at hA hval
  obtain ⟨rfl, rfl, rfl⟩ := trodAll_none hA
  obtain ⟨rfl, rfl⟩ := trodVars_none hV
  clear hA0 hval0
  simp only [List.append_nil] at hW'
  refine (treenone_w  W).mono fun e W' ⟨he, hg⟩ => ?_
  subst he
  exact ⟨_, rfl, post_of_below (pa := []) (pv := []) hW' (fun _ _ _ => (trodAll_cons_mk (shut_bool Try.underlying4 _) trodAll_mk0)) (fun sp _ => rfl) (fun _ _ => rfl) rfl
    hg.below (ok_one (by kernel_rfl) rfl (okWide_bool_mk Try.underlying4 _))⟩

theorem treeNone_holds : Rows.treeNoneRow.holds Try.pinned (OpenSpec.ofChange Rows.treeNoneSpec) :=
  OpenClaim.holds_of_wide 22 Try.f22 rfl rfl rfl rfl rfl rfl rfl ⟨rfl, rfl, rfl, rfl, rfl⟩ rfl rfl rfl rfl rfl (by kernel_rfl) Try.func22 treeNone_join
    (of_decide_eq_true (by kernel_rfl)) (by unfold Func.isWrapper; first | (rw [if_pos (by decide +kernel)]; kernel_rfl) | (rw [if_neg (by decide +kernel)]; exact ⟨rfl, rfl⟩))
    (fun os started H enc _ => treeNone_lifted os started H enc)
theorem treeNone_said : Rows.TreeNoneSaid := treeNone_holds
#print axioms treeNone_said
end Go.Proofs.Ytpapoalgocmlaaa
