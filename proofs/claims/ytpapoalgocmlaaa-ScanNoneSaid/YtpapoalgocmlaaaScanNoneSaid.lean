/- The statement ScanNone: whatever the input, the law answers true, and the input reads as it did; no condition. -/
import Derived.Test.YtpapoalgocmlaaaFacts
import Derived.Test.YtpapoalgocmlaaaScanNone
namespace Go.Proofs.Ytpapoalgocmlaaa
open Go.ChangeShapes Go.WideShapes Go.ChangeAt Go.RowKit
set_option linter.unusedVariables false
set_option linter.unusedSimpArgs false
set_option maxRecDepth 100000
theorem scanNone_k0 : (Rows.scanNoneRow.wf (OpenSpec.ofChange Rows.scanNoneSpec)) = true := by kernel_rfl
theorem scanNone_k1 : (laidOutB Try.prog) = true := by kernel_rfl
theorem scanNone_k2 : (mapsRowed Try.prog) = true := by kernel_rfl
theorem scanNone_k3 : (Try.f17.params.all (Try.prog.readableRec ·)) = true := by kernel_rfl
theorem scanNone_k4 : (namedTie Try.prog Rows.scanNoneRow.named Rows.scanNoneSpec.vars) = true := by kernel_rfl
theorem scanNone_k5 : ((Rows.scanNoneRow.stops == [])) = true := by kernel_rfl
theorem scanNone_k6 : ((Try.prog.stops == [])) = true := by kernel_rfl
theorem scanNone_k7 : ((Rows.scanNoneRow.knobs == [])) = true := by kernel_rfl
theorem scanNone_k8 : ((Try.prog.stopKnobs == [])) = true := by kernel_rfl
theorem scanNone_k9 : ((Rows.scanNoneRow.inPlace == Try.prog.inPlace 17)) = true := by kernel_rfl
theorem scanNone_k10 : ((Rows.scanNoneRow.unfollowed == Try.prog.unfollowed 17)) = true := by kernel_rfl
theorem scanNone_k11 : ((Rows.scanNoneRow.recurses == Try.prog.recurses 17)) = true := by kernel_rfl
theorem scanNone_k12 : ((Rows.scanNoneRow.named == Try.prog.varsNamed 17)) = true := by kernel_rfl
theorem scanNone_k13 : ((Rows.scanNoneRow.maps == (Try.f17.params.toList ++ Rows.scanNoneSpec.plain.varTypes Try.prog).any (Try.prog.mapsRec ·))) = true := by kernel_rfl
theorem scanNone_k14 : ((Rows.scanNoneRow.ifaces == (Try.f17.params.toList ++ Rows.scanNoneSpec.plain.varTypes Try.prog).any (Try.prog.ifacesRec ·))) = true := by kernel_rfl
theorem scanNone_k15 : ((Rows.scanNoneRow.mapsOut == Try.prog.mapsAmong Try.f17.resultTypes.toList)) = true := by kernel_rfl
theorem scanNone_k16 : ((Rows.scanNoneRow.loops == (Try.f17.params.toList ++ Rows.scanNoneSpec.plain.varTypes Try.prog).any (Try.prog.loopsFrom ·))) = true := by kernel_rfl
theorem scanNone_k17 : ((Rows.scanNoneRow.wideKeys == (Try.f17.params.toList ++ Rows.scanNoneSpec.plain.varTypes Try.prog ++ Try.f17.resultTypes.toList).any (Try.prog.wideKeysFrom ·))) = true := by kernel_rfl
theorem scanNone_k18 : (Rows.scanNoneSpec.vars.all (Try.prog.varReadable ·)) = true := by kernel_rfl
theorem scanNone_k19 : (Try.f17.resultTypes.all (fun t => Try.prog.readableRec t && decide (t < Try.prog.types.size))) = true := by kernel_rfl
theorem scanNone_k20 : ((Rows.scanNoneRow.ifacesOut == Try.f17.resultTypes.toList.any (Try.prog.ifacesRec ·))) = true := by kernel_rfl
theorem scanNone_k21 : ((Rows.scanNoneRow.loopsOut == Try.f17.resultTypes.toList.any (Try.prog.loopsFrom ·))) = true := by kernel_rfl
theorem scanNone_k22 : ((Rows.scanNoneRow.plainKeys == Try.prog.plainKeys)) = true := by kernel_rfl
theorem scanNone_k23 : (Rows.scanNoneRow.shortTexts.isNone) = true := by kernel_rfl
theorem scanNone_k24 : (Try.prog.stopsHeard) = true := by kernel_rfl
theorem scanNone_k25 : (Try.prog.mayEnter) = true := mayEnter_of Try.prog (behindMainWord (wordsSigns initSigns)) (congrArg (fun l => behindMainWord (wordsSigns l)) initL) initStrip1 initStrip2 initLays initReflect initDoors
theorem scanNone_k26 : ((Rows.scanNoneRow.lifted == Try.prog.liftsFinal)) = true := beq_of (liftsFinal_of Try.prog (behindMainWord (wordsSigns initSigns)) (congrArg (fun l => behindMainWord (wordsSigns l)) initL) initStrip1 initHead)
theorem scanNone_k27 : ((Try.prog.make == some Rows.scanNoneRow.make)) = true := by rw [make_of Try.prog (behindMainWord (wordsSigns initSigns)) (congrArg (fun l => behindMainWord (wordsSigns l)) initL) initHead]; rfl
theorem scanNone_k28 : ((Rows.scanNoneRow.kinds == [])) = true := by kernel_rfl
theorem scanNone_k29 : ((Rows.scanNoneRow.pinned == Rows.scanNoneRow.pinnedBy)) = true := by kernel_rfl
theorem scanNone_k30 : ((Rows.scanNoneRow.veiled == (Try.f17.params.toList ++ Rows.scanNoneSpec.plain.varTypes Try.prog ++ Try.f17.resultTypes.toList).any (Try.prog.veiledRec ·))) = true := by kernel_rfl
theorem scanNone_k31 : (Rows.scanNoneRow.veiledFits Try.prog Try.f17.params.toList (Try.f17.params.toList ++ Rows.scanNoneSpec.plain.varTypes Try.prog ++ Try.f17.resultTypes.toList)) = true := by kernel_rfl
theorem scanNone_dom : (Rows.scanNoneRow.domain.isEmpty) = true := by kernel_rfl
theorem scanNone_join : joinedFacts Try.prog 17 Try.f17 Rows.scanNoneSpec Rows.scanNoneRow = true :=
  join_of scanNone_dom scanNone_k0 scanNone_k1 scanNone_k2 scanNone_k3 scanNone_k4 scanNone_k5 scanNone_k6 scanNone_k7 scanNone_k8 scanNone_k9 scanNone_k10 scanNone_k11 scanNone_k12 scanNone_k13 scanNone_k14 scanNone_k15 scanNone_k16 scanNone_k17 scanNone_k18 scanNone_k19 scanNone_k20 scanNone_k21 scanNone_k22 scanNone_k23 scanNone_k24 scanNone_k25 scanNone_k26 scanNone_k27 scanNone_k28 scanNone_k29 scanNone_k30 scanNone_k31
theorem scanNone_lifted (os : Os) (started : os.Started) (H : Type) (enc : TypeId × Value → H) :
    ReturnsInHanded {} Try.checked os 17 .any (Rows.scanNoneSpec.pre6 enc Try.prog Try.f17 Rows.scanNoneRow.domain false) (Rows.scanNoneSpec.post enc Try.prog Try.f17 false true false false) := by
  refine returnsInHanded_of_change (C := Try.checked) ownNone started (by kernel_rfl) Try.func17
    (ChangeSpec.witness6 (enc := enc) (C := Try.checked) false ⟨#[], #[], []⟩ 8 (by kernel_rfl) (by kernel_rfl) (by kernel_rfl) (by kernel_rfl)) ?_
  intro W base args ds gs before hval0 hW hcnd _
  have hval : ∀ (j : Nat) t v, Try.f17.params[j]? = some t → args[j]? = some v → Value.okWide Try.prog W .any base t v := hval0
  have hW' := hW
  obtain ⟨p, q, hA0, hV, rfl, hfz, hnd⟩ := hW
  have hA : DataW.TrodAll enc Try.prog W 0 (fun _ => true) true Try.f17.params.toList args.toList ds p := hA0
  rw [Try.params17] at hA hval
  obtain ⟨rfl, rfl, rfl⟩ := trodAll_none hA
  obtain ⟨rfl, rfl⟩ := trodVars_none hV
  clear hA0 hval0
  simp only [List.append_nil] at hW'
  refine (scannone_w  W).mono fun e W' ⟨he, hg⟩ => ?_
  subst he
  exact ⟨_, rfl, post_of_below (pa := []) (pv := []) hW' (fun _ _ _ => (trodAll_cons_mk (shut_bool Try.underlying4 _) trodAll_mk0)) (fun sp _ => rfl) (fun _ _ => rfl) rfl
    hg (ok_one (by kernel_rfl) rfl (okWide_bool_mk Try.underlying4 _))⟩

theorem scanNone_holds : Rows.scanNoneRow.holds Try.pinned (OpenSpec.ofChange Rows.scanNoneSpec) :=
  OpenClaim.holds_of_wide 17 Try.f17 rfl rfl rfl rfl rfl rfl rfl ⟨rfl, rfl, rfl, rfl, rfl⟩ rfl rfl rfl rfl rfl (by kernel_rfl) Try.func17 scanNone_join
    (of_decide_eq_true (by kernel_rfl)) (by unfold Func.isWrapper; first | (rw [if_pos (by decide +kernel)]; kernel_rfl) | (rw [if_neg (by decide +kernel)]; exact ⟨rfl, rfl⟩))
    (fun os started H enc _ => scanNone_lifted os started H enc)
theorem scanNone_said : Rows.ScanNoneSaid := scanNone_holds
#print axioms scanNone_said
end Go.Proofs.Ytpapoalgocmlaaa
