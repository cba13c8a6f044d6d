/- The statement LogSince: whatever the input, the law answers true, and the input reads as it did; no condition. -/
import Derived.Test.YtpapoalgocmlaaaFacts
import Derived.Test.YtpapoalgocmlaaaLogSince
import Derived.WalkKit
import Derived.ProofKit
import Derived.OpenShut
import Derived.ShutString
import Derived.ChangeOld
import Derived.Below
namespace Go.Proofs.Ytpapoalgocmlaaa
open Go.ChangeShapes Go.WideShapes Go.ChangeAt Go.RowKit
set_option linter.unusedVariables false
set_option linter.unusedSimpArgs false
set_option maxRecDepth 100000
open Go.ChangeMaps (open_string shut_string)
theorem logSince_k0 : (Rows.logSinceRow.wf (OpenSpec.ofChange Rows.logSinceSpec)) = true := by kernel_rfl
theorem logSince_k1 : (laidOutB Try.prog) = true := by kernel_rfl
theorem logSince_k2 : (mapsRowed Try.prog) = true := by kernel_rfl
theorem logSince_k3 : (Try.f7.params.all (Try.prog.readableRec ·)) = true := by kernel_rfl
theorem logSince_k4 : (namedTie Try.prog Rows.logSinceRow.named Rows.logSinceSpec.vars) = true := by kernel_rfl
theorem logSince_k5 : ((Rows.logSinceRow.stops == [])) = true := by kernel_rfl
theorem logSince_k6 : ((Try.prog.stops == [])) = true := by kernel_rfl
theorem logSince_k7 : ((Rows.logSinceRow.knobs == [])) = true := by kernel_rfl
theorem logSince_k8 : ((Try.prog.stopKnobs == [])) = true := by kernel_rfl
theorem logSince_k9 : ((Rows.logSinceRow.inPlace == Try.prog.inPlace 7)) = true := by kernel_rfl
theorem logSince_k10 : ((Rows.logSinceRow.unfollowed == Try.prog.unfollowed 7)) = true := by kernel_rfl
theorem logSince_k11 : ((Rows.logSinceRow.recurses == Try.prog.recurses 7)) = true := by kernel_rfl
theorem logSince_k12 : ((Rows.logSinceRow.named == Try.prog.varsNamed 7)) = true := by kernel_rfl
theorem logSince_k13 : ((Rows.logSinceRow.maps == (Try.f7.params.toList ++ Rows.logSinceSpec.plain.varTypes Try.prog).any (Try.prog.mapsRec ·))) = true := by kernel_rfl
theorem logSince_k14 : ((Rows.logSinceRow.ifaces == (Try.f7.params.toList ++ Rows.logSinceSpec.plain.varTypes Try.prog).any (Try.prog.ifacesRec ·))) = true := by kernel_rfl
theorem logSince_k15 : ((Rows.logSinceRow.mapsOut == Try.prog.mapsAmong Try.f7.resultTypes.toList)) = true := by kernel_rfl
theorem logSince_k16 : ((Rows.logSinceRow.loops == (Try.f7.params.toList ++ Rows.logSinceSpec.plain.varTypes Try.prog).any (Try.prog.loopsFrom ·))) = true := by kernel_rfl
theorem logSince_k17 : ((Rows.logSinceRow.wideKeys == (Try.f7.params.toList ++ Rows.logSinceSpec.plain.varTypes Try.prog ++ Try.f7.resultTypes.toList).any (Try.prog.wideKeysFrom ·))) = true := by kernel_rfl
theorem logSince_k18 : (Rows.logSinceSpec.vars.all (Try.prog.varReadable ·)) = true := by kernel_rfl
theorem logSince_k19 : (Try.f7.resultTypes.all (fun t => Try.prog.readableRec t && decide (t < Try.prog.types.size))) = true := by kernel_rfl
theorem logSince_k20 : ((Rows.logSinceRow.ifacesOut == Try.f7.resultTypes.toList.any (Try.prog.ifacesRec ·))) = true := by kernel_rfl
theorem logSince_k21 : ((Rows.logSinceRow.loopsOut == Try.f7.resultTypes.toList.any (Try.prog.loopsFrom ·))) = true := by kernel_rfl
theorem logSince_k22 : ((Rows.logSinceRow.plainKeys == Try.prog.plainKeys)) = true := by kernel_rfl
theorem logSince_k23 : (Rows.logSinceRow.shortTexts.isNone) = true := by kernel_rfl
theorem logSince_k24 : (Try.prog.stopsHeard) = true := by kernel_rfl
theorem logSince_k25 : (Try.prog.mayEnter) = true := mayEnter_of Try.prog (behindMainWord (wordsSigns initSigns)) (congrArg (fun l => behindMainWord (wordsSigns l)) initL) initStrip1 initStrip2 initLays initReflect initDoors
theorem logSince_k26 : ((Rows.logSinceRow.lifted == Try.prog.liftsFinal)) = true := beq_of (liftsFinal_of Try.prog (behindMainWord (wordsSigns initSigns)) (congrArg (fun l => behindMainWord (wordsSigns l)) initL) initStrip1 initHead)
theorem logSince_k27 : ((Try.prog.make == some Rows.logSinceRow.make)) = true := by rw [make_of Try.prog (behindMainWord (wordsSigns initSigns)) (congrArg (fun l => behindMainWord (wordsSigns l)) initL) initHead]; rfl
theorem logSince_k28 : ((Rows.logSinceRow.kinds == [])) = true := by kernel_rfl
theorem logSince_k29 : ((Rows.logSinceRow.pinned == Rows.logSinceRow.pinnedBy)) = true := by kernel_rfl
theorem logSince_k30 : ((Rows.logSinceRow.veiled == (Try.f7.params.toList ++ Rows.logSinceSpec.plain.varTypes Try.prog ++ Try.f7.resultTypes.toList).any (Try.prog.veiledRec ·))) = true := by kernel_rfl
theorem logSince_k31 : (Rows.logSinceRow.veiledFits Try.prog Try.f7.params.toList (Try.f7.params.toList ++ Rows.logSinceSpec.plain.varTypes Try.prog ++ Try.f7.resultTypes.toList)) = true := by kernel_rfl
theorem logSince_dom : (Rows.logSinceRow.domain.isEmpty) = true := by kernel_rfl
theorem logSince_join : joinedFacts Try.prog 7 Try.f7 Rows.logSinceSpec Rows.logSinceRow = true :=
  join_of logSince_dom logSince_k0 logSince_k1 logSince_k2 logSince_k3 logSince_k4 logSince_k5 logSince_k6 logSince_k7 logSince_k8 logSince_k9 logSince_k10 logSince_k11 logSince_k12 logSince_k13 logSince_k14 logSince_k15 logSince_k16 logSince_k17 logSince_k18 logSince_k19 logSince_k20 logSince_k21 logSince_k22 logSince_k23 logSince_k24 logSince_k25 logSince_k26 logSince_k27 logSince_k28 logSince_k29 logSince_k30 logSince_k31
theorem logSince_lifted (os : Os) (started : os.Started) (H : Type) (enc : TypeId × Value → H) :
    ReturnsInHanded {} Try.checked os 7 .any (Rows.logSinceSpec.pre6 enc Try.prog Try.f7 Rows.logSinceRow.domain false) (Rows.logSinceSpec.post enc Try.prog Try.f7 false true false false) := by
  refine returnsInHanded_of_change (C := Try.checked) ownNone started (by kernel_rfl) Try.func7
    (ChangeSpec.witness6 (enc := enc) (C := Try.checked) false ⟨#[], #[.slice none 0 0, .int .i64 0, .int .u64 0], []⟩ 8 (by kernel_rfl) (by kernel_rfl) (by kernel_rfl) (by kernel_rfl)) ?_
  intro W base args ds gs before hval0 hW hcnd _
  have hval : ∀ (j : Nat) t v, Try.f7.params[j]? = some t → args[j]? = some v → Value.okWide Try.prog W .any base t v := hval0
  have hW' := hW
  obtain ⟨p, q, hA0, hV, rfl, hfz, hnd⟩ := hW
  have hA : DataW.TrodAll enc Try.prog W 0 (fun _ => true) true Try.f7.params.toList args.toList ds p := hA0
  rw [Try.params7] at hA hval
  obtain ⟨v0, vs0, d0, ds0, p0, q0, hargs, rfl, rfl, h0, r0⟩ := trodAll_cons hA
  obtain ⟨v1, vs1, d1, ds1, p1, q1, rfl, rfl, rfl, h1, r1⟩ := trodAll_cons r0
  obtain ⟨v2, vs2, d2, ds2, p2, q2, rfl, rfl, rfl, h2, r2⟩ := trodAll_cons r1
  obtain ⟨rfl, rfl, rfl⟩ := trodAll_nil r2
  obtain rfl : args = #[v0, v1, v2] := by cases args; simp_all
  obtain ⟨rfl, rfl⟩ := trodVars_none hV
  obtain ⟨a0, len0, cap0, rfl⟩ := okWide_slice Try.underlying62 (hval 0 62 v0 rfl rfl)
  have k0 := h0
  have lt0 : ∀ x ∈ p0, x.block < W.heap.size := by obtain ⟨m, hm⟩ := k0; exact DataW.trod_lt m _ _ _ hm
  obtain ⟨z0, w0⟩ : ∃ zs, IsRow .i64 W a0 len0 cap0 zs := by
    obtain ⟨fuel, hf⟩ := h0
    rcases open_ints Try.underlying62 Try.underlying3 (by kernel_rfl) hf with ⟨hcs, _⟩ | ⟨x, l, c, zs, hcs, _, hl, hm, hz, _, hcell, hwz⟩
    · simp [Value.cells] at hcs
      obtain ⟨rfl, rfl, rfl⟩ := hcs
      exact ⟨[], .inl ⟨rfl, rfl, rfl, rfl⟩⟩
    · simp [Value.cells] at hcs
      obtain ⟨rfl, rfl, rfl⟩ := hcs
      exact ⟨zs, .inr ⟨_, rfl, hl, hm, by simpa using hz, hcell, hwz⟩⟩
  obtain ⟨a1, rfl, rfl, rfl, w1⟩ := open_int Try.underlying3 (hval 1 3 v1 rfl rfl) h1
  obtain ⟨a2, rfl, rfl, rfl, w2⟩ := open_int Try.underlying22 (hval 2 22 v2 rfl rfl) h2
  clear hA0 hval0
  refine (logsince_w a0 len0 cap0 z0 a1 a2 W w0 w1 w2).mono fun e W' ⟨he, bel⟩ => ?_
  subst he
  exact ⟨_, rfl, _, _, _, [], _, [], hW', trodAll_mk1 (shut_bool Try.underlying4 _), (trodAll_cons_mk (Below.trod logSince_k1 (by kernel_rfl) (of_decide_eq_true (by kernel_rfl)) k0 bel lt0) (trodAll_cons_mk (shut_int Try.underlying3 w1) (trodAll_cons_mk (shut_int Try.underlying22 w2) trodAll_mk0))), rfl, bel.frame _, fun h => by cases h⟩

theorem logSince_holds : Rows.logSinceRow.holds Try.pinned (OpenSpec.ofChange Rows.logSinceSpec) :=
  OpenClaim.holds_of_wide 7 Try.f7 rfl rfl rfl rfl rfl rfl rfl ⟨rfl, rfl, rfl, rfl, rfl⟩ rfl rfl rfl rfl rfl (by kernel_rfl) Try.func7 logSince_join
    (of_decide_eq_true (by kernel_rfl)) (by unfold Func.isWrapper; first | (rw [if_pos (by decide +kernel)]; kernel_rfl) | (rw [if_neg (by decide +kernel)]; exact ⟨rfl, rfl⟩))
    (fun os started H enc _ => logSince_lifted os started H enc)
theorem logSince_said : Rows.LogSinceSaid := logSince_holds
#print axioms logSince_said
end Go.Proofs.Ytpapoalgocmlaaa
