/- The statement LogLeft: whatever the input, the law answers true, and the input reads as it did; no condition. -/
import Derived.Test.YtpapoalgocmlaaaFacts
import Derived.Test.YtpapoalgocmlaaaLogLeft
namespace Go.Proofs.Ytpapoalgocmlaaa
open Go.ChangeShapes Go.WideShapes Go.ChangeAt Go.RowKit
set_option linter.unusedVariables false
set_option linter.unusedSimpArgs false
set_option maxRecDepth 100000
theorem logLeft_k0 : (Rows.logLeftRow.wf (OpenSpec.ofChange Rows.logLeftSpec)) = true := by kernel_rfl
theorem logLeft_k1 : (laidOutB Try.prog) = true := by kernel_rfl
theorem logLeft_k2 : (mapsRowed Try.prog) = true := by kernel_rfl
theorem logLeft_k3 : (Try.f6.params.all (Try.prog.readableRec ·)) = true := by kernel_rfl
theorem logLeft_k4 : (namedTie Try.prog Rows.logLeftRow.named Rows.logLeftSpec.vars) = true := by kernel_rfl
theorem logLeft_k5 : ((Rows.logLeftRow.stops == [])) = true := by kernel_rfl
theorem logLeft_k6 : ((Try.prog.stops == [])) = true := by kernel_rfl
theorem logLeft_k7 : ((Rows.logLeftRow.knobs == [])) = true := by kernel_rfl
theorem logLeft_k8 : ((Try.prog.stopKnobs == [])) = true := by kernel_rfl
theorem logLeft_k9 : ((Rows.logLeftRow.inPlace == Try.prog.inPlace 6)) = true := by kernel_rfl
theorem logLeft_k10 : ((Rows.logLeftRow.unfollowed == Try.prog.unfollowed 6)) = true := by kernel_rfl
theorem logLeft_k11 : ((Rows.logLeftRow.recurses == Try.prog.recurses 6)) = true := by kernel_rfl
theorem logLeft_k12 : ((Rows.logLeftRow.named == Try.prog.varsNamed 6)) = true := by kernel_rfl
theorem logLeft_k13 : ((Rows.logLeftRow.maps == (Try.f6.params.toList ++ Rows.logLeftSpec.plain.varTypes Try.prog).any (Try.prog.mapsRec ·))) = true := by kernel_rfl
theorem logLeft_k14 : ((Rows.logLeftRow.ifaces == (Try.f6.params.toList ++ Rows.logLeftSpec.plain.varTypes Try.prog).any (Try.prog.ifacesRec ·))) = true := by kernel_rfl
theorem logLeft_k15 : ((Rows.logLeftRow.mapsOut == Try.prog.mapsAmong Try.f6.resultTypes.toList)) = true := by kernel_rfl
theorem logLeft_k16 : ((Rows.logLeftRow.loops == (Try.f6.params.toList ++ Rows.logLeftSpec.plain.varTypes Try.prog).any (Try.prog.loopsFrom ·))) = true := by kernel_rfl
theorem logLeft_k17 : ((Rows.logLeftRow.wideKeys == (Try.f6.params.toList ++ Rows.logLeftSpec.plain.varTypes Try.prog ++ Try.f6.resultTypes.toList).any (Try.prog.wideKeysFrom ·))) = true := by kernel_rfl
theorem logLeft_k18 : (Rows.logLeftSpec.vars.all (Try.prog.varReadable ·)) = true := by kernel_rfl
theorem logLeft_k19 : (Try.f6.resultTypes.all (fun t => Try.prog.readableRec t && decide (t < Try.prog.types.size))) = true := by kernel_rfl
theorem logLeft_k20 : ((Rows.logLeftRow.ifacesOut == Try.f6.resultTypes.toList.any (Try.prog.ifacesRec ·))) = true := by kernel_rfl
theorem logLeft_k21 : ((Rows.logLeftRow.loopsOut == Try.f6.resultTypes.toList.any (Try.prog.loopsFrom ·))) = true := by kernel_rfl
theorem logLeft_k22 : ((Rows.logLeftRow.plainKeys == Try.prog.plainKeys)) = true := by kernel_rfl
theorem logLeft_k23 : (Rows.logLeftRow.shortTexts.isNone) = true := by kernel_rfl
theorem logLeft_k24 : (Try.prog.stopsHeard) = true := by kernel_rfl
theorem logLeft_k25 : (Try.prog.mayEnter) = true := mayEnter_of Try.prog (behindMainWord (wordsSigns initSigns)) (congrArg (fun l => behindMainWord (wordsSigns l)) initL) initStrip1 initStrip2 initLays initReflect initDoors
theorem logLeft_k26 : ((Rows.logLeftRow.lifted == Try.prog.liftsFinal)) = true := beq_of (liftsFinal_of Try.prog (behindMainWord (wordsSigns initSigns)) (congrArg (fun l => behindMainWord (wordsSigns l)) initL) initStrip1 initHead)
theorem logLeft_k27 : ((Try.prog.make == some Rows.logLeftRow.make)) = true := by rw [make_of Try.prog (behindMainWord (wordsSigns initSigns)) (congrArg (fun l => behindMainWord (wordsSigns l)) initL) initHead]; rfl
theorem logLeft_k28 : ((Rows.logLeftRow.kinds == [])) = true := by kernel_rfl
theorem logLeft_k29 : ((Rows.logLeftRow.pinned == Rows.logLeftRow.pinnedBy)) = true := by kernel_rfl
theorem logLeft_k30 : ((Rows.logLeftRow.veiled == (Try.f6.params.toList ++ Rows.logLeftSpec.plain.varTypes Try.prog ++ Try.f6.resultTypes.toList).any (Try.prog.veiledRec ·))) = true := by kernel_rfl
theorem logLeft_k31 : (Rows.logLeftRow.veiledFits Try.prog Try.f6.params.toList (Try.f6.params.toList ++ Rows.logLeftSpec.plain.varTypes Try.prog ++ Try.f6.resultTypes.toList)) = true := by kernel_rfl
theorem logLeft_dom : (Rows.logLeftRow.domain.isEmpty) = true := by kernel_rfl
theorem logLeft_join : joinedFacts Try.prog 6 Try.f6 Rows.logLeftSpec Rows.logLeftRow = true :=
  join_of logLeft_dom logLeft_k0 logLeft_k1 logLeft_k2 logLeft_k3 logLeft_k4 logLeft_k5 logLeft_k6 logLeft_k7 logLeft_k8 logLeft_k9 logLeft_k10 logLeft_k11 logLeft_k12 logLeft_k13 logLeft_k14 logLeft_k15 logLeft_k16 logLeft_k17 logLeft_k18 logLeft_k19 logLeft_k20 logLeft_k21 logLeft_k22 logLeft_k23 logLeft_k24 logLeft_k25 logLeft_k26 logLeft_k27 logLeft_k28 logLeft_k29 logLeft_k30 logLeft_k31
theorem logLeft_lifted (os : Os) (started : os.Started) (H : Type) (enc : TypeId × Value → H) :
    ReturnsInHanded {} Try.checked os 6 .any (Rows.logLeftSpec.pre6 enc Try.prog Try.f6 Rows.logLeftRow.domain false) (Rows.logLeftSpec.post enc Try.prog Try.f6 false true false false) := by
  refine returnsInHanded_of_change (C := Try.checked) ownNone started (by kernel_rfl) Try.func6
    (ChangeSpec.witness6 (enc := enc) (C := Try.checked) false ⟨#[], #[.int .i64 0, .int .i64 0, .int .i64 0], []⟩ 8 (by kernel_rfl) (by kernel_rfl) (by kernel_rfl) (by kernel_rfl)) ?_
  intro W base args ds gs before hval0 hW hcnd _
  have hval : ∀ (j : Nat) t v, Try.f6.params[j]? = some t → args[j]? = some v → Value.okWide Try.prog W .any base t v := hval0
  have hW' := hW
  obtain ⟨p, q, hA0, hV, rfl, hfz, hnd⟩ := hW
  have hA : DataW.TrodAll enc Try.prog W 0 (fun _ => true) true Try.f6.params.toList args.toList ds p := hA0
  rw [Try.params6] at hA hval
  obtain ⟨v0, vs0, d0, ds0, p0, q0, hargs, rfl, rfl, h0, r0⟩ := trodAll_cons hA
  obtain ⟨v1, vs1, d1, ds1, p1, q1, rfl, rfl, rfl, h1, r1⟩ := trodAll_cons r0
  obtain ⟨v2, vs2, d2, ds2, p2, q2, rfl, rfl, rfl, h2, r2⟩ := trodAll_cons r1
  obtain ⟨rfl, rfl, rfl⟩ := trodAll_nil r2
  obtain rfl : args = #[v0, v1, v2] := by cases args; simp_all
  obtain ⟨rfl, rfl⟩ := trodVars_none hV
  obtain ⟨a0, rfl, rfl, rfl, w0⟩ := open_int Try.underlying3 (hval 0 3 v0 rfl rfl) h0
  obtain ⟨a1, rfl, rfl, rfl, w1⟩ := open_int Try.underlying3 (hval 1 3 v1 rfl rfl) h1
  obtain ⟨a2, rfl, rfl, rfl, w2⟩ := open_int Try.underlying3 (hval 2 3 v2 rfl rfl) h2
  clear hA0 hval0
  simp only [List.append_nil] at hW'
  refine (logleft_w a0 a1 a2 w0 w1 w2 W).mono fun e W' ⟨he, hg⟩ => ?_
  subst he
  exact ⟨_, rfl, post_of_below (pa := []) (pv := []) hW' (fun _ _ _ => (trodAll_cons_mk (shut_bool Try.underlying4 _) trodAll_mk0)) (fun sp _ => (trodAll_cons_mk (shut_int Try.underlying3 w0) (trodAll_cons_mk (shut_int Try.underlying3 w1) (trodAll_cons_mk (shut_int Try.underlying3 w2) trodAll_mk0)))) (fun _ _ => rfl) rfl
    hg (ok_one (by kernel_rfl) rfl (okWide_bool_mk Try.underlying4 _))⟩

theorem logLeft_holds : Rows.logLeftRow.holds Try.pinned (OpenSpec.ofChange Rows.logLeftSpec) :=
  OpenClaim.holds_of_wide 6 Try.f6 rfl rfl rfl rfl rfl rfl rfl ⟨rfl, rfl, rfl, rfl, rfl⟩ rfl rfl rfl rfl rfl (by kernel_rfl) Try.func6 logLeft_join
    (of_decide_eq_true (by kernel_rfl)) (by unfold Func.isWrapper; first | (rw [if_pos (by decide +kernel)]; kernel_rfl) | (rw [if_neg (by decide +kernel)]; exact ⟨rfl, rfl⟩))
    (fun os started H enc _ => logLeft_lifted os started H enc)
theorem logLeft_said : Rows.LogLeftSaid := logLeft_holds
#print axioms logLeft_said
end Go.Proofs.Ytpapoalgocmlaaa
