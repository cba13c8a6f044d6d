/- The statement LogPuts: whatever the input, the law answers true, and the input reads as it did; no condition. -/
import Derived.Test.YtpapoalgocmlaaaFacts
import Derived.Test.YtpapoalgocmlaaaLogPuts
namespace Go.Proofs.Ytpapoalgocmlaaa
open Go.ChangeShapes Go.WideShapes Go.ChangeAt Go.RowKit
set_option linter.unusedVariables false
set_option linter.unusedSimpArgs false
set_option maxRecDepth 100000
theorem logPuts_k0 : (Rows.logPutsRow.wf (OpenSpec.ofChange Rows.logPutsSpec)) = true := by kernel_rfl
theorem logPuts_k1 : (laidOutB Try.prog) = true := by kernel_rfl
theorem logPuts_k2 : (mapsRowed Try.prog) = true := by kernel_rfl
theorem logPuts_k3 : (Try.f3.params.all (Try.prog.readableRec ·)) = true := by kernel_rfl
theorem logPuts_k4 : (namedTie Try.prog Rows.logPutsRow.named Rows.logPutsSpec.vars) = true := by kernel_rfl
theorem logPuts_k5 : ((Rows.logPutsRow.stops == [])) = true := by kernel_rfl
theorem logPuts_k6 : ((Try.prog.stops == [])) = true := by kernel_rfl
theorem logPuts_k7 : ((Rows.logPutsRow.knobs == [])) = true := by kernel_rfl
theorem logPuts_k8 : ((Try.prog.stopKnobs == [])) = true := by kernel_rfl
theorem logPuts_k9 : ((Rows.logPutsRow.inPlace == Try.prog.inPlace 3)) = true := by kernel_rfl
theorem logPuts_k10 : ((Rows.logPutsRow.unfollowed == Try.prog.unfollowed 3)) = true := by kernel_rfl
theorem logPuts_k11 : ((Rows.logPutsRow.recurses == Try.prog.recurses 3)) = true := by kernel_rfl
theorem logPuts_k12 : ((Rows.logPutsRow.named == Try.prog.varsNamed 3)) = true := by kernel_rfl
theorem logPuts_k13 : ((Rows.logPutsRow.maps == (Try.f3.params.toList ++ Rows.logPutsSpec.plain.varTypes Try.prog).any (Try.prog.mapsRec ·))) = true := by kernel_rfl
theorem logPuts_k14 : ((Rows.logPutsRow.ifaces == (Try.f3.params.toList ++ Rows.logPutsSpec.plain.varTypes Try.prog).any (Try.prog.ifacesRec ·))) = true := by kernel_rfl
theorem logPuts_k15 : ((Rows.logPutsRow.mapsOut == Try.prog.mapsAmong Try.f3.resultTypes.toList)) = true := by kernel_rfl
theorem logPuts_k16 : ((Rows.logPutsRow.loops == (Try.f3.params.toList ++ Rows.logPutsSpec.plain.varTypes Try.prog).any (Try.prog.loopsFrom ·))) = true := by kernel_rfl
theorem logPuts_k17 : ((Rows.logPutsRow.wideKeys == (Try.f3.params.toList ++ Rows.logPutsSpec.plain.varTypes Try.prog ++ Try.f3.resultTypes.toList).any (Try.prog.wideKeysFrom ·))) = true := by kernel_rfl
theorem logPuts_k18 : (Rows.logPutsSpec.vars.all (Try.prog.varReadable ·)) = true := by kernel_rfl
theorem logPuts_k19 : (Try.f3.resultTypes.all (fun t => Try.prog.readableRec t && decide (t < Try.prog.types.size))) = true := by kernel_rfl
theorem logPuts_k20 : ((Rows.logPutsRow.ifacesOut == Try.f3.resultTypes.toList.any (Try.prog.ifacesRec ·))) = true := by kernel_rfl
theorem logPuts_k21 : ((Rows.logPutsRow.loopsOut == Try.f3.resultTypes.toList.any (Try.prog.loopsFrom ·))) = true := by kernel_rfl
theorem logPuts_k22 : ((Rows.logPutsRow.plainKeys == Try.prog.plainKeys)) = true := by kernel_rfl
theorem logPuts_k23 : (Rows.logPutsRow.shortTexts.isNone) = true := by kernel_rfl
theorem logPuts_k24 : (Try.prog.stopsHeard) = true := by kernel_rfl
theorem logPuts_k25 : (Try.prog.mayEnter) = true := mayEnter_of Try.prog (behindMainWord (wordsSigns initSigns)) (congrArg (fun l => behindMainWord (wordsSigns l)) initL) initStrip1 initStrip2 initLays initReflect initDoors
theorem logPuts_k26 : ((Rows.logPutsRow.lifted == Try.prog.liftsFinal)) = true := beq_of (liftsFinal_of Try.prog (behindMainWord (wordsSigns initSigns)) (congrArg (fun l => behindMainWord (wordsSigns l)) initL) initStrip1 initHead)
theorem logPuts_k27 : ((Try.prog.make == some Rows.logPutsRow.make)) = true := by rw [make_of Try.prog (behindMainWord (wordsSigns initSigns)) (congrArg (fun l => behindMainWord (wordsSigns l)) initL) initHead]; rfl
theorem logPuts_k28 : ((Rows.logPutsRow.kinds == [])) = true := by kernel_rfl
theorem logPuts_k29 : ((Rows.logPutsRow.pinned == Rows.logPutsRow.pinnedBy)) = true := by kernel_rfl
theorem logPuts_k30 : ((Rows.logPutsRow.veiled == (Try.f3.params.toList ++ Rows.logPutsSpec.plain.varTypes Try.prog ++ Try.f3.resultTypes.toList).any (Try.prog.veiledRec ·))) = true := by kernel_rfl
theorem logPuts_k31 : (Rows.logPutsRow.veiledFits Try.prog Try.f3.params.toList (Try.f3.params.toList ++ Rows.logPutsSpec.plain.varTypes Try.prog ++ Try.f3.resultTypes.toList)) = true := by kernel_rfl
theorem logPuts_dom : (Rows.logPutsRow.domain.isEmpty) = true := by kernel_rfl
theorem logPuts_join : joinedFacts Try.prog 3 Try.f3 Rows.logPutsSpec Rows.logPutsRow = true :=
  join_of logPuts_dom logPuts_k0 logPuts_k1 logPuts_k2 logPuts_k3 logPuts_k4 logPuts_k5 logPuts_k6 logPuts_k7 logPuts_k8 logPuts_k9 logPuts_k10 logPuts_k11 logPuts_k12 logPuts_k13 logPuts_k14 logPuts_k15 logPuts_k16 logPuts_k17 logPuts_k18 logPuts_k19 logPuts_k20 logPuts_k21 logPuts_k22 logPuts_k23 logPuts_k24 logPuts_k25 logPuts_k26 logPuts_k27 logPuts_k28 logPuts_k29 logPuts_k30 logPuts_k31
theorem logPuts_lifted (os : Os) (started : os.Started) (H : Type) (enc : TypeId × Value → H) :
    ReturnsInHanded {} Try.checked os 3 .any (Rows.logPutsSpec.pre6 enc Try.prog Try.f3 Rows.logPutsRow.domain false) (Rows.logPutsSpec.post enc Try.prog Try.f3 false true false false) := by
  refine returnsInHanded_of_change (C := Try.checked) ownNone started (by kernel_rfl) Try.func3
    (ChangeSpec.witness6 (enc := enc) (C := Try.checked) false ⟨#[], #[.int .u64 0, .int .u64 0], []⟩ 8 (by kernel_rfl) (by kernel_rfl) (by kernel_rfl) (by kernel_rfl)) ?_
  intro W base args ds gs before hval0 hW hcnd _
  have hval : ∀ (j : Nat) t v, Try.f3.params[j]? = some t → args[j]? = some v → Value.okWide Try.prog W .any base t v := hval0
  have hW' := hW
  obtain ⟨p, q, hA0, hV, rfl, hfz, hnd⟩ := hW
  have hA : DataW.TrodAll enc Try.prog W 0 (fun _ => true) true Try.f3.params.toList args.toList ds p := hA0
  rw [Try.params3] at hA hval
  obtain ⟨v0, vs0, d0, ds0, p0, q0, hargs, rfl, rfl, h0, r0⟩ := trodAll_cons hA
  obtain ⟨v1, vs1, d1, ds1, p1, q1, rfl, rfl, rfl, h1, r1⟩ := trodAll_cons r0
  obtain ⟨rfl, rfl, rfl⟩ := trodAll_nil r1
  obtain rfl : args = #[v0, v1] := by cases args; simp_all
  obtain ⟨rfl, rfl⟩ := trodVars_none hV
  obtain ⟨a0, rfl, rfl, rfl, w0⟩ := open_int Try.underlying22 (hval 0 22 v0 rfl rfl) h0
  obtain ⟨a1, rfl, rfl, rfl, w1⟩ := open_int Try.underlying22 (hval 1 22 v1 rfl rfl) h1
  clear hA0 hval0
  simp only [List.append_nil] at hW'
  refine (logputs_w a0 a1 w0 w1 W).mono fun e W' ⟨he, hg⟩ => ?_
  subst he
  exact ⟨_, rfl, post_of_same (pa := []) (pv := []) hW' (fun _ _ _ => (trodAll_cons_mk (shut_bool Try.underlying4 _) trodAll_mk0)) (fun sp _ => (trodAll_cons_mk (shut_int Try.underlying22 w0) (trodAll_cons_mk (shut_int Try.underlying22 w1) trodAll_mk0))) (fun _ _ => rfl) rfl
    (hg.below.frame _) hg.froze (ok_one (by kernel_rfl) rfl (okWide_bool_mk Try.underlying4 _))⟩

theorem logPuts_holds : Rows.logPutsRow.holds Try.pinned (OpenSpec.ofChange Rows.logPutsSpec) :=
  OpenClaim.holds_of_wide 3 Try.f3 rfl rfl rfl rfl rfl rfl rfl ⟨rfl, rfl, rfl, rfl, rfl⟩ rfl rfl rfl rfl rfl (by kernel_rfl) Try.func3 logPuts_join
    (of_decide_eq_true (by kernel_rfl)) (by unfold Func.isWrapper; first | (rw [if_pos (by decide +kernel)]; kernel_rfl) | (rw [if_neg (by decide +kernel)]; exact ⟨rfl, rfl⟩))
    (fun os started H enc _ => logPuts_lifted os started H enc)
theorem logPuts_said : Rows.LogPutsSaid := logPuts_holds
#print axioms logPuts_said
end Go.Proofs.Ytpapoalgocmlaaa
