/- The statement LogKeeps: whatever the input, the law answers true, and the input reads as it did; no condition. -/
import Derived.Test.YtpapoalgocmlaaaFacts
import Derived.Test.YtpapoalgocmlaaaLogKeeps
namespace Go.Proofs.Ytpapoalgocmlaaa
open Go.ChangeShapes Go.WideShapes Go.ChangeAt Go.RowKit
set_option linter.unusedVariables false
set_option linter.unusedSimpArgs false
set_option maxRecDepth 100000
theorem logKeeps_k0 : (Rows.logKeepsRow.wf (OpenSpec.ofChange Rows.logKeepsSpec)) = true := by kernel_rfl
theorem logKeeps_k1 : (laidOutB Try.prog) = true := by kernel_rfl
theorem logKeeps_k2 : (mapsRowed Try.prog) = true := by kernel_rfl
theorem logKeeps_k3 : (Try.f4.params.all (Try.prog.readableRec ·)) = true := by kernel_rfl
theorem logKeeps_k4 : (namedTie Try.prog Rows.logKeepsRow.named Rows.logKeepsSpec.vars) = true := by kernel_rfl
theorem logKeeps_k5 : ((Rows.logKeepsRow.stops == [])) = true := by kernel_rfl
theorem logKeeps_k6 : ((Try.prog.stops == [])) = true := by kernel_rfl
theorem logKeeps_k7 : ((Rows.logKeepsRow.knobs == [])) = true := by kernel_rfl
theorem logKeeps_k8 : ((Try.prog.stopKnobs == [])) = true := by kernel_rfl
theorem logKeeps_k9 : ((Rows.logKeepsRow.inPlace == Try.prog.inPlace 4)) = true := by kernel_rfl
theorem logKeeps_k10 : ((Rows.logKeepsRow.unfollowed == Try.prog.unfollowed 4)) = true := by kernel_rfl
theorem logKeeps_k11 : ((Rows.logKeepsRow.recurses == Try.prog.recurses 4)) = true := by kernel_rfl
theorem logKeeps_k12 : ((Rows.logKeepsRow.named == Try.prog.varsNamed 4)) = true := by kernel_rfl
theorem logKeeps_k13 : ((Rows.logKeepsRow.maps == (Try.f4.params.toList ++ Rows.logKeepsSpec.plain.varTypes Try.prog).any (Try.prog.mapsRec ·))) = true := by kernel_rfl
theorem logKeeps_k14 : ((Rows.logKeepsRow.ifaces == (Try.f4.params.toList ++ Rows.logKeepsSpec.plain.varTypes Try.prog).any (Try.prog.ifacesRec ·))) = true := by kernel_rfl
theorem logKeeps_k15 : ((Rows.logKeepsRow.mapsOut == Try.prog.mapsAmong Try.f4.resultTypes.toList)) = true := by kernel_rfl
theorem logKeeps_k16 : ((Rows.logKeepsRow.loops == (Try.f4.params.toList ++ Rows.logKeepsSpec.plain.varTypes Try.prog).any (Try.prog.loopsFrom ·))) = true := by kernel_rfl
theorem logKeeps_k17 : ((Rows.logKeepsRow.wideKeys == (Try.f4.params.toList ++ Rows.logKeepsSpec.plain.varTypes Try.prog ++ Try.f4.resultTypes.toList).any (Try.prog.wideKeysFrom ·))) = true := by kernel_rfl
theorem logKeeps_k18 : (Rows.logKeepsSpec.vars.all (Try.prog.varReadable ·)) = true := by kernel_rfl
theorem logKeeps_k19 : (Try.f4.resultTypes.all (fun t => Try.prog.readableRec t && decide (t < Try.prog.types.size))) = true := by kernel_rfl
theorem logKeeps_k20 : ((Rows.logKeepsRow.ifacesOut == Try.f4.resultTypes.toList.any (Try.prog.ifacesRec ·))) = true := by kernel_rfl
theorem logKeeps_k21 : ((Rows.logKeepsRow.loopsOut == Try.f4.resultTypes.toList.any (Try.prog.loopsFrom ·))) = true := by kernel_rfl
theorem logKeeps_k22 : ((Rows.logKeepsRow.plainKeys == Try.prog.plainKeys)) = true := by kernel_rfl
theorem logKeeps_k23 : (Rows.logKeepsRow.shortTexts.isNone) = true := by kernel_rfl
theorem logKeeps_k24 : (Try.prog.stopsHeard) = true := by kernel_rfl
theorem logKeeps_k25 : (Try.prog.mayEnter) = true := mayEnter_of Try.prog (behindMainWord (wordsSigns initSigns)) (congrArg (fun l => behindMainWord (wordsSigns l)) initL) initStrip1 initStrip2 initLays initReflect initDoors
theorem logKeeps_k26 : ((Rows.logKeepsRow.lifted == Try.prog.liftsFinal)) = true := beq_of (liftsFinal_of Try.prog (behindMainWord (wordsSigns initSigns)) (congrArg (fun l => behindMainWord (wordsSigns l)) initL) initStrip1 initHead)
theorem logKeeps_k27 : ((Try.prog.make == some Rows.logKeepsRow.make)) = true := by rw [make_of Try.prog (behindMainWord (wordsSigns initSigns)) (congrArg (fun l => behindMainWord (wordsSigns l)) initL) initHead]; rfl
theorem logKeeps_k28 : ((Rows.logKeepsRow.kinds == [])) = true := by kernel_rfl
theorem logKeeps_k29 : ((Rows.logKeepsRow.pinned == Rows.logKeepsRow.pinnedBy)) = true := by kernel_rfl
theorem logKeeps_k30 : ((Rows.logKeepsRow.veiled == (Try.f4.params.toList ++ Rows.logKeepsSpec.plain.varTypes Try.prog ++ Try.f4.resultTypes.toList).any (Try.prog.veiledRec ·))) = true := by kernel_rfl
theorem logKeeps_k31 : (Rows.logKeepsRow.veiledFits Try.prog Try.f4.params.toList (Try.f4.params.toList ++ Rows.logKeepsSpec.plain.varTypes Try.prog ++ Try.f4.resultTypes.toList)) = true := by kernel_rfl
theorem logKeeps_dom : (Rows.logKeepsRow.domain.isEmpty) = true := by kernel_rfl
theorem logKeeps_join : joinedFacts Try.prog 4 Try.f4 Rows.logKeepsSpec Rows.logKeepsRow = true :=
  join_of logKeeps_dom logKeeps_k0 logKeeps_k1 logKeeps_k2 logKeeps_k3 logKeeps_k4 logKeeps_k5 logKeeps_k6 logKeeps_k7 logKeeps_k8 logKeeps_k9 logKeeps_k10 logKeeps_k11 logKeeps_k12 logKeeps_k13 logKeeps_k14 logKeeps_k15 logKeeps_k16 logKeeps_k17 logKeeps_k18 logKeeps_k19 logKeeps_k20 logKeeps_k21 logKeeps_k22 logKeeps_k23 logKeeps_k24 logKeeps_k25 logKeeps_k26 logKeeps_k27 logKeeps_k28 logKeeps_k29 logKeeps_k30 logKeeps_k31
theorem logKeeps_lifted (os : Os) (started : os.Started) (H : Type) (enc : TypeId × Value → H) :
    ReturnsInHanded {} Try.checked os 4 .any (Rows.logKeepsSpec.pre6 enc Try.prog Try.f4 Rows.logKeepsRow.domain false) (Rows.logKeepsSpec.post enc Try.prog Try.f4 false true false false) := by
  refine returnsInHanded_of_change (C := Try.checked) ownNone started (by kernel_rfl) Try.func4
    (ChangeSpec.witness6 (enc := enc) (C := Try.checked) false ⟨#[], #[.int .u64 0, .int .i64 0, .int .i64 0], []⟩ 8 (by kernel_rfl) (by kernel_rfl) (by kernel_rfl) (by kernel_rfl)) ?_
  intro W base args ds gs before hval0 hW hcnd _
  have hval : ∀ (j : Nat) t v, Try.f4.params[j]? = some t → args[j]? = some v → Value.okWide Try.prog W .any base t v := hval0
  have hW' := hW
  obtain ⟨p, q, hA0, hV, rfl, hfz, hnd⟩ := hW
  have hA : DataW.TrodAll enc Try.prog W 0 (fun _ => true) true Try.f4.params.toList args.toList ds p := hA0
  rw [Try.params4] at hA hval
  obtain ⟨v0, vs0, d0, ds0, p0, q0, hargs, rfl, rfl, h0, r0⟩ := trodAll_cons hA
  obtain ⟨v1, vs1, d1, ds1, p1, q1, rfl, rfl, rfl, h1, r1⟩ := trodAll_cons r0
  obtain ⟨v2, vs2, d2, ds2, p2, q2, rfl, rfl, rfl, h2, r2⟩ := trodAll_cons r1
  obtain ⟨rfl, rfl, rfl⟩ := trodAll_nil r2
  obtain rfl : args = #[v0, v1, v2] := by cases args; simp_all
  obtain ⟨rfl, rfl⟩ := trodVars_none hV
  obtain ⟨a0, rfl, rfl, rfl, w0⟩ := open_int Try.underlying22 (hval 0 22 v0 rfl rfl) h0
  obtain ⟨a1, rfl, rfl, rfl, w1⟩ := open_int Try.underlying3 (hval 1 3 v1 rfl rfl) h1
  obtain ⟨a2, rfl, rfl, rfl, w2⟩ := open_int Try.underlying3 (hval 2 3 v2 rfl rfl) h2
  clear hA0 hval0
  simp only [List.append_nil] at hW'
  refine (logkeeps_w a0 a1 a2 w0 w1 w2 W).mono fun e W' ⟨he, hg⟩ => ?_
  subst he
  exact ⟨_, rfl, post_of_same (pa := []) (pv := []) hW' (fun _ _ _ => (trodAll_cons_mk (shut_bool Try.underlying4 _) trodAll_mk0)) (fun sp _ => (trodAll_cons_mk (shut_int Try.underlying22 w0) (trodAll_cons_mk (shut_int Try.underlying3 w1) (trodAll_cons_mk (shut_int Try.underlying3 w2) trodAll_mk0)))) (fun _ _ => rfl) rfl
    (hg.below.frame _) hg.froze (ok_one (by kernel_rfl) rfl (okWide_bool_mk Try.underlying4 _))⟩

theorem logKeeps_holds : Rows.logKeepsRow.holds Try.pinned (OpenSpec.ofChange Rows.logKeepsSpec) :=
  OpenClaim.holds_of_wide 4 Try.f4 rfl rfl rfl rfl rfl rfl rfl ⟨rfl, rfl, rfl, rfl, rfl⟩ rfl rfl rfl rfl rfl (by kernel_rfl) Try.func4 logKeeps_join
    (of_decide_eq_true (by kernel_rfl)) (by unfold Func.isWrapper; first | (rw [if_pos (by decide +kernel)]; kernel_rfl) | (rw [if_neg (by decide +kernel)]; exact ⟨rfl, rfl⟩))
    (fun os started H enc _ => logKeeps_lifted os started H enc)
theorem logKeeps_said : Rows.LogKeepsSaid := logKeeps_holds
#print axioms logKeeps_said
end Go.Proofs.Ytpapoalgocmlaaa
