/- The statement LogNil: whatever the input, the law answers true, and the input reads as it did; no condition. -/
import Derived.Test.YtpapoalgocmlaaaFacts
import Derived.Test.YtpapoalgocmlaaaLogNil
namespace Go.Proofs.Ytpapoalgocmlaaa
open Go.ChangeShapes Go.WideShapes Go.ChangeAt Go.RowKit
set_option linter.unusedVariables false
set_option linter.unusedSimpArgs false
set_option maxRecDepth 100000
theorem logNil_k0 : (Rows.logNilRow.wf (OpenSpec.ofChange Rows.logNilSpec)) = true := by kernel_rfl
theorem logNil_k1 : (laidOutB Try.prog) = true := by kernel_rfl
theorem logNil_k2 : (mapsRowed Try.prog) = true := by kernel_rfl
theorem logNil_k3 : (Try.f8.params.all (Try.prog.readableRec ·)) = true := by kernel_rfl
theorem logNil_k4 : (namedTie Try.prog Rows.logNilRow.named Rows.logNilSpec.vars) = true := by kernel_rfl
theorem logNil_k5 : ((Rows.logNilRow.stops == [])) = true := by kernel_rfl
theorem logNil_k6 : ((Try.prog.stops == [])) = true := by kernel_rfl
theorem logNil_k7 : ((Rows.logNilRow.knobs == [])) = true := by kernel_rfl
theorem logNil_k8 : ((Try.prog.stopKnobs == [])) = true := by kernel_rfl
theorem logNil_k9 : ((Rows.logNilRow.inPlace == Try.prog.inPlace 8)) = true := by kernel_rfl
theorem logNil_k10 : ((Rows.logNilRow.unfollowed == Try.prog.unfollowed 8)) = true := by kernel_rfl
theorem logNil_k11 : ((Rows.logNilRow.recurses == Try.prog.recurses 8)) = true := by kernel_rfl
theorem logNil_k12 : ((Rows.logNilRow.named == Try.prog.varsNamed 8)) = true := by kernel_rfl
theorem logNil_k13 : ((Rows.logNilRow.maps == (Try.f8.params.toList ++ Rows.logNilSpec.plain.varTypes Try.prog).any (Try.prog.mapsRec ·))) = true := by kernel_rfl
theorem logNil_k14 : ((Rows.logNilRow.ifaces == (Try.f8.params.toList ++ Rows.logNilSpec.plain.varTypes Try.prog).any (Try.prog.ifacesRec ·))) = true := by kernel_rfl
theorem logNil_k15 : ((Rows.logNilRow.mapsOut == Try.prog.mapsAmong Try.f8.resultTypes.toList)) = true := by kernel_rfl
theorem logNil_k16 : ((Rows.logNilRow.loops == (Try.f8.params.toList ++ Rows.logNilSpec.plain.varTypes Try.prog).any (Try.prog.loopsFrom ·))) = true := by kernel_rfl
theorem logNil_k17 : ((Rows.logNilRow.wideKeys == (Try.f8.params.toList ++ Rows.logNilSpec.plain.varTypes Try.prog ++ Try.f8.resultTypes.toList).any (Try.prog.wideKeysFrom ·))) = true := by kernel_rfl
theorem logNil_k18 : (Rows.logNilSpec.vars.all (Try.prog.varReadable ·)) = true := by kernel_rfl
theorem logNil_k19 : (Try.f8.resultTypes.all (fun t => Try.prog.readableRec t && decide (t < Try.prog.types.size))) = true := by kernel_rfl
theorem logNil_k20 : ((Rows.logNilRow.ifacesOut == Try.f8.resultTypes.toList.any (Try.prog.ifacesRec ·))) = true := by kernel_rfl
theorem logNil_k21 : ((Rows.logNilRow.loopsOut == Try.f8.resultTypes.toList.any (Try.prog.loopsFrom ·))) = true := by kernel_rfl
theorem logNil_k22 : ((Rows.logNilRow.plainKeys == Try.prog.plainKeys)) = true := by kernel_rfl
theorem logNil_k23 : (Rows.logNilRow.shortTexts.isNone) = true := by kernel_rfl
theorem logNil_k24 : (Try.prog.stopsHeard) = true := by kernel_rfl
theorem logNil_k25 : (Try.prog.mayEnter) = true := mayEnter_of Try.prog (behindMainWord (wordsSigns initSigns)) (congrArg (fun l => behindMainWord (wordsSigns l)) initL) initStrip1 initStrip2 initLays initReflect initDoors
theorem logNil_k26 : ((Rows.logNilRow.lifted == Try.prog.liftsFinal)) = true := beq_of (liftsFinal_of Try.prog (behindMainWord (wordsSigns initSigns)) (congrArg (fun l => behindMainWord (wordsSigns l)) initL) initStrip1 initHead)
theorem logNil_k27 : ((Try.prog.make == some Rows.logNilRow.make)) = true := by rw [make_of Try.prog (behindMainWord (wordsSigns initSigns)) (congrArg (fun l => behindMainWord (wordsSigns l)) initL) initHead]; rfl
theorem logNil_k28 : ((Rows.logNilRow.kinds == [])) = true := by kernel_rfl
theorem logNil_k29 : ((Rows.logNilRow.pinned == Rows.logNilRow.pinnedBy)) = true := by kernel_rfl
theorem logNil_k30 : ((Rows.logNilRow.veiled == (Try.f8.params.toList ++ Rows.logNilSpec.plain.varTypes Try.prog ++ Try.f8.resultTypes.toList).any (Try.prog.veiledRec ·))) = true := by kernel_rfl
theorem logNil_k31 : (Rows.logNilRow.veiledFits Try.prog Try.f8.params.toList (Try.f8.params.toList ++ Rows.logNilSpec.plain.varTypes Try.prog ++ Try.f8.resultTypes.toList)) = true := by kernel_rfl
theorem logNil_dom : (Rows.logNilRow.domain.isEmpty) = true := by kernel_rfl
theorem logNil_join : joinedFacts Try.prog 8 Try.f8 Rows.logNilSpec Rows.logNilRow = true :=
  join_of logNil_dom logNil_k0 logNil_k1 logNil_k2 logNil_k3 logNil_k4 logNil_k5 logNil_k6 logNil_k7 logNil_k8 logNil_k9 logNil_k10 logNil_k11 logNil_k12 logNil_k13 logNil_k14 logNil_k15 logNil_k16 logNil_k17 logNil_k18 logNil_k19 logNil_k20 logNil_k21 logNil_k22 logNil_k23 logNil_k24 logNil_k25 logNil_k26 logNil_k27 logNil_k28 logNil_k29 logNil_k30 logNil_k31
theorem logNil_lifted (os : Os) (started : os.Started) (H : Type) (enc : TypeId × Value → H) :
    ReturnsInHanded {} Try.checked os 8 .any (Rows.logNilSpec.pre6 enc Try.prog Try.f8 Rows.logNilRow.domain false) (Rows.logNilSpec.post enc Try.prog Try.f8 false true false false) := by
  refine returnsInHanded_of_change (C := Try.checked) ownNone started (by kernel_rfl) Try.func8
    (ChangeSpec.witness6 (enc := enc) (C := Try.checked) false ⟨#[], #[], []⟩ 8 (by kernel_rfl) (by kernel_rfl) (by kernel_rfl) (by kernel_rfl)) ?_
  intro W base args ds gs before hval0 hW hcnd _
  have hval : ∀ (j : Nat) t v, Try.f8.params[j]? = some t → args[j]? = some v → Value.okWide Try.prog W .any base t v := hval0
  have hW' := hW
  obtain ⟨p, q, hA0, hV, rfl, hfz, hnd⟩ := hW
  have hA : DataW.TrodAll enc Try.prog W 0 (fun _ => true) true Try.f8.params.toList args.toList ds p := hA0
  rw [Try.params8] at hA hval
  obtain ⟨rfl, rfl, rfl⟩ := trodAll_none hA
  obtain ⟨rfl, rfl⟩ := trodVars_none hV
  clear hA0 hval0
  simp only [List.append_nil] at hW'
  refine (lognil_w  W).mono fun e W' ⟨he, hg⟩ => ?_
  subst he
  exact ⟨_, rfl, post_of_below (pa := []) (pv := []) hW' (fun _ _ _ => (trodAll_cons_mk (shut_bool Try.underlying4 _) trodAll_mk0)) (fun sp _ => rfl) (fun _ _ => rfl) rfl
    hg (ok_one (by kernel_rfl) rfl (okWide_bool_mk Try.underlying4 _))⟩

theorem logNil_holds : Rows.logNilRow.holds Try.pinned (OpenSpec.ofChange Rows.logNilSpec) :=
  OpenClaim.holds_of_wide 8 Try.f8 rfl rfl rfl rfl rfl rfl rfl ⟨rfl, rfl, rfl, rfl, rfl⟩ rfl rfl rfl rfl rfl (by kernel_rfl) Try.func8 logNil_join
    (of_decide_eq_true (by kernel_rfl)) (by unfold Func.isWrapper; first | (rw [if_pos (by decide +kernel)]; kernel_rfl) | (rw [if_neg (by decide +kernel)]; exact ⟨rfl, rfl⟩))
    (fun os started H enc _ => logNil_lifted os started H enc)
theorem logNil_said : Rows.LogNilSaid := logNil_holds
#print axioms logNil_said
end Go.Proofs.Ytpapoalgocmlaaa
