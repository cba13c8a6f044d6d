/- The statement LogPlays: whatever the input, the law answers true, and the input reads as it did; no condition. -/
import Derived.Test.YtpapoalgocmlaaaPpFacts
import Derived.Test.YtpapoalgocmlaaaPpa
import Derived.Test.YtpapoalgocmlaaaPpb
import Derived.Test.YtpapoalgocmlaaaPpc
import Derived.Test.YtpapoalgocmlaaaPpd
import Derived.Test.YtpapoalgocmlaaaPpe
import Derived.ShutString
namespace Go.Proofs.Ytpapoalgocmlaaa
open Go.ChangeShapes Go.WideShapes Go.ChangeAt Go.RowKit
set_option linter.unusedVariables false
set_option linter.unusedSimpArgs false
set_option linter.unnecessarySimpa false
set_option maxRecDepth 100000
open Go.ChangeMaps (open_string shut_string)
theorem logPlays_k0 : (Rows.logPlaysRow.wf (OpenSpec.ofChange Rows.logPlaysSpec)) = true := by kernel_rfl
theorem logPlays_k1 : (laidOutB Try.prog) = true := by kernel_rfl
theorem logPlays_k2 : (mapsRowed Try.prog) = true := by kernel_rfl
theorem logPlays_k3 : (Try.f9.params.all (Try.prog.readableRec ·)) = true := by kernel_rfl
theorem logPlays_k4 : (namedTie Try.prog Rows.logPlaysRow.named Rows.logPlaysSpec.vars) = true := by kernel_rfl
theorem logPlays_k5 : ((Rows.logPlaysRow.stops == [])) = true := by kernel_rfl
theorem logPlays_k6 : ((Try.prog.stops == [])) = true := by kernel_rfl
theorem logPlays_k7 : ((Rows.logPlaysRow.knobs == [])) = true := by kernel_rfl
theorem logPlays_k8 : ((Try.prog.stopKnobs == [])) = true := by kernel_rfl
theorem logPlays_k9 : ((Rows.logPlaysRow.inPlace == Try.prog.inPlace 9)) = true := by kernel_rfl
theorem logPlays_k10 : ((Rows.logPlaysRow.unfollowed == Try.prog.unfollowed 9)) = true := by kernel_rfl
theorem logPlays_k11 : ((Rows.logPlaysRow.recurses == Try.prog.recurses 9)) = true := by kernel_rfl
theorem logPlays_k12 : ((Rows.logPlaysRow.named == Try.prog.varsNamed 9)) = true := by kernel_rfl
theorem logPlays_k13 : ((Rows.logPlaysRow.maps == (Try.f9.params.toList ++ Rows.logPlaysSpec.plain.varTypes Try.prog).any (Try.prog.mapsRec ·))) = true := by kernel_rfl
theorem logPlays_k14 : ((Rows.logPlaysRow.ifaces == (Try.f9.params.toList ++ Rows.logPlaysSpec.plain.varTypes Try.prog).any (Try.prog.ifacesRec ·))) = true := by kernel_rfl
theorem logPlays_k15 : ((Rows.logPlaysRow.mapsOut == Try.prog.mapsAmong Try.f9.resultTypes.toList)) = true := by kernel_rfl
theorem logPlays_k16 : ((Rows.logPlaysRow.loops == (Try.f9.params.toList ++ Rows.logPlaysSpec.plain.varTypes Try.prog).any (Try.prog.loopsFrom ·))) = true := by kernel_rfl
theorem logPlays_k17 : ((Rows.logPlaysRow.wideKeys == (Try.f9.params.toList ++ Rows.logPlaysSpec.plain.varTypes Try.prog ++ Try.f9.resultTypes.toList).any (Try.prog.wideKeysFrom ·))) = true := by kernel_rfl
theorem logPlays_k18 : (Rows.logPlaysSpec.vars.all (Try.prog.varReadable ·)) = true := by kernel_rfl
theorem logPlays_k19 : (Try.f9.resultTypes.all (fun t => Try.prog.readableRec t && decide (t < Try.prog.types.size))) = true := by kernel_rfl
theorem logPlays_k20 : ((Rows.logPlaysRow.ifacesOut == Try.f9.resultTypes.toList.any (Try.prog.ifacesRec ·))) = true := by kernel_rfl
theorem logPlays_k21 : ((Rows.logPlaysRow.loopsOut == Try.f9.resultTypes.toList.any (Try.prog.loopsFrom ·))) = true := by kernel_rfl
theorem logPlays_k22 : ((Rows.logPlaysRow.plainKeys == Try.prog.plainKeys)) = true := by kernel_rfl
theorem logPlays_k23 : (Rows.logPlaysRow.shortTexts.isNone) = true := by kernel_rfl
theorem logPlays_k24 : (Try.prog.stopsHeard) = true := by kernel_rfl
theorem logPlays_k25 : (Try.prog.mayEnter) = true := mayEnter_of Try.prog (behindMainWord (wordsSigns initSigns)) (congrArg (fun l => behindMainWord (wordsSigns l)) initL) initStrip1 initStrip2 initLays initReflect initDoors
theorem logPlays_k26 : ((Rows.logPlaysRow.lifted == Try.prog.liftsFinal)) = true := beq_of (liftsFinal_of Try.prog (behindMainWord (wordsSigns initSigns)) (congrArg (fun l => behindMainWord (wordsSigns l)) initL) initStrip1 initHead)
theorem logPlays_k27 : ((Try.prog.make == some Rows.logPlaysRow.make)) = true := by rw [make_of Try.prog (behindMainWord (wordsSigns initSigns)) (congrArg (fun l => behindMainWord (wordsSigns l)) initL) initHead]; rfl
theorem logPlays_k28 : ((Rows.logPlaysRow.kinds == [])) = true := by kernel_rfl
theorem logPlays_k29 : ((Rows.logPlaysRow.pinned == Rows.logPlaysRow.pinnedBy)) = true := by kernel_rfl
theorem logPlays_k30 : ((Rows.logPlaysRow.veiled == (Try.f9.params.toList ++ Rows.logPlaysSpec.plain.varTypes Try.prog ++ Try.f9.resultTypes.toList).any (Try.prog.veiledRec ·))) = true := by kernel_rfl
theorem logPlays_k31 : (Rows.logPlaysRow.veiledFits Try.prog Try.f9.params.toList (Try.f9.params.toList ++ Rows.logPlaysSpec.plain.varTypes Try.prog ++ Try.f9.resultTypes.toList)) = true := by kernel_rfl
theorem logPlays_dom : (Rows.logPlaysRow.domain.isEmpty) = true := by kernel_rfl
theorem logPlays_join : joinedFacts Try.prog 9 Try.f9 Rows.logPlaysSpec Rows.logPlaysRow = true :=
  join_of logPlays_dom logPlays_k0 logPlays_k1 logPlays_k2 logPlays_k3 logPlays_k4 logPlays_k5 logPlays_k6 logPlays_k7 logPlays_k8 logPlays_k9 logPlays_k10 logPlays_k11 logPlays_k12 logPlays_k13 logPlays_k14 logPlays_k15 logPlays_k16 logPlays_k17 logPlays_k18 logPlays_k19 logPlays_k20 logPlays_k21 logPlays_k22 logPlays_k23 logPlays_k24 logPlays_k25 logPlays_k26 logPlays_k27 logPlays_k28 logPlays_k29 logPlays_k30 logPlays_k31
theorem logPlays_reads : ∀ t ∈ Try.f9.params.toList, Try.prog.readableRec t = true ∧ t < Try.prog.types.size := by
  have h : (Try.f9.params.toList.all fun t => Try.prog.readableRec t && decide (t < Try.prog.types.size)) = true := by kernel_rfl
  intro t ht
  simpa using List.all_eq_true.1 h t ht
theorem logPlays_lifted (os : Os) (started : os.Started) (H : Type) (enc : TypeId × Value → H) :
    ReturnsInHanded {} Try.checked os 9 .any (Rows.logPlaysSpec.pre6 enc Try.prog Try.f9 Rows.logPlaysRow.domain false) (Rows.logPlaysSpec.post enc Try.prog Try.f9 false true false false) := by
  refine returnsInHanded_w (C := Try.checked) ownNone started (by kernel_rfl) Try.func9
    (ChangeSpec.witness6 (enc := enc) (C := Try.checked) false ⟨#[], #[.int .i64 0, .slice none 0 0], []⟩ 8 (by kernel_rfl) (by kernel_rfl) (by kernel_rfl) (by kernel_rfl)) ?_
  intro W base args ds gs before hval0 hW hwt
  have hval : ∀ (j : Nat) t v, Try.f9.params[j]? = some t → args[j]? = some v → Value.okWide Try.prog W .any base t v := hval0
  have hW' := hW
  obtain ⟨p, q, hA0, hV, rfl, hfz, hnd⟩ := hW
  have hA : DataW.TrodAll enc Try.prog W 0 (fun _ => true) true Try.f9.params.toList args.toList ds p := hA0
  have hA1 := hA
  rw [Try.params9] at hA hval
  obtain ⟨v0, vs0, d0, ds0, p0, q0, hargs, rfl, rfl, h0, r0⟩ := trodAll_cons hA
  obtain ⟨v1, vs1, d1, ds1, p1, q1, rfl, rfl, rfl, h1, r1⟩ := trodAll_cons r0
  obtain ⟨rfl, rfl, rfl⟩ := trodAll_nil r1
  obtain rfl : args = #[v0, v1] := by cases args; simp_all
  obtain ⟨rfl, rfl⟩ := trodVars_none hV
  clear hA0 hval0 hargs
  obtain ⟨a0, rfl, rfl, rfl, hr0⟩ := open_int Try.underlying3 (hval 0 3 v0 rfl rfl) h0
  have w1 : WOk Try.prog 74 d1 := weightsEach_at hwt 1 _ _ (by kernel_rfl) rfl
  obtain ⟨fuel1, f1⟩ := h1
  obtain ⟨s1, xs1, hc1, hr1⟩ := lacts_of_trod f1 w1
  obtain ⟨ad1, n1, c1, rfl⟩ := okWide_slice Try.underlying74 (hval 1 74 v1 rfl rfl)
  have e1 : Value.slice ad1 n1 c1 = .slice s1.a xs1.length s1.c := by simpa [Value.cells] using hc1
  rw [e1] at hA1 hW' ⊢
  refine (logplays_w a0 s1 xs1 W hr0 hr1).mono fun e W' ⟨he, hg⟩ => ?_
  subst he
  have hB : Below W.heap.size W W' := hg
  have hlt := DataW.Whole.lt hW'
  exact ⟨_, rfl, post_of_below (pv := []) hW' (fun _ _ _ => (trodAll_cons_mk (shut_bool Try.underlying4 _) trodAll_mk0)) (fun sp hsp => trodAll_stays logPlays_k1 hB sp logPlays_reads hA1 (fun z hz => hlt z (by simpa using hz)) (fun z hz => hsp z (by simpa using hz))) (fun _ _ => rfl) rfl
    hB (ok_one (by kernel_rfl) rfl (okWide_bool_mk Try.underlying4 _))⟩
theorem logPlays_holds : Rows.logPlaysRow.holds Try.pinned (OpenSpec.ofChange Rows.logPlaysSpec) :=
  OpenClaim.holds_of_wide 9 Try.f9 rfl rfl rfl rfl rfl rfl rfl ⟨rfl, rfl, rfl, rfl, rfl⟩ rfl rfl rfl rfl rfl (by kernel_rfl) Try.func9 logPlays_join
    (of_decide_eq_true (by kernel_rfl)) (by unfold Func.isWrapper; first | (rw [if_pos (by decide +kernel)]; kernel_rfl) | (rw [if_neg (by decide +kernel)]; exact ⟨rfl, rfl⟩))
    (fun os started H enc _ => logPlays_lifted os started H enc)
theorem logPlays_said : Rows.LogPlaysSaid := logPlays_holds
#print axioms logPlays_said
end Go.Proofs.Ytpapoalgocmlaaa
