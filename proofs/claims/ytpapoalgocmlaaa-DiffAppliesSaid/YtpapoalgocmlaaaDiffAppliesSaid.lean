/- The statement DiffApplies: whatever the input, the law answers true, and the input reads as it did; no condition. -/
import Derived.Test.YtpapoalgocmlaaaPdFacts
import Derived.Test.YtpapoalgocmlaaaPda
import Derived.Test.YtpapoalgocmlaaaPdb
import Derived.Test.YtpapoalgocmlaaaPdc
import Derived.Test.YtpapoalgocmlaaaPdd
import Derived.Test.YtpapoalgocmlaaaPde
import Derived.Test.YtpapoalgocmlaaaPdf
import Derived.Test.YtpapoalgocmlaaaPdg
import Derived.Test.YtpapoalgocmlaaaPdh
import Derived.Test.YtpapoalgocmlaaaPdj
import Derived.Test.YtpapoalgocmlaaaPdo
import Derived.Test.YtpapoalgocmlaaaPdp
import Derived.ShutString
namespace Go.Proofs.Ytpapoalgocmlaaa
open Go.ChangeShapes Go.WideShapes Go.ChangeAt Go.RowKit
set_option linter.unusedVariables false
set_option linter.unusedSimpArgs false
set_option linter.unnecessarySimpa false
set_option maxRecDepth 100000
open Go.ChangeMaps (open_string shut_string)
theorem diffApplies_k0 : (Rows.diffAppliesRow.wf (OpenSpec.ofChange Rows.diffAppliesSpec)) = true := by kernel_rfl
theorem diffApplies_k1 : (laidOutB Try.prog) = true := by kernel_rfl
theorem diffApplies_k2 : (mapsRowed Try.prog) = true := by kernel_rfl
theorem diffApplies_k3 : (Try.f26.params.all (Try.prog.readableRec ·)) = true := by kernel_rfl
theorem diffApplies_k4 : (namedTie Try.prog Rows.diffAppliesRow.named Rows.diffAppliesSpec.vars) = true := by kernel_rfl
theorem diffApplies_k5 : ((Rows.diffAppliesRow.stops == [])) = true := by kernel_rfl
theorem diffApplies_k6 : ((Try.prog.stops == [])) = true := by kernel_rfl
theorem diffApplies_k7 : ((Rows.diffAppliesRow.knobs == [])) = true := by kernel_rfl
theorem diffApplies_k8 : ((Try.prog.stopKnobs == [])) = true := by kernel_rfl
theorem diffApplies_k9 : ((Rows.diffAppliesRow.inPlace == Try.prog.inPlace 26)) = true := by kernel_rfl
theorem diffApplies_k10 : ((Rows.diffAppliesRow.unfollowed == Try.prog.unfollowed 26)) = true := by kernel_rfl
theorem diffApplies_k11 : ((Rows.diffAppliesRow.recurses == Try.prog.recurses 26)) = true := by kernel_rfl
theorem diffApplies_k12 : ((Rows.diffAppliesRow.named == Try.prog.varsNamed 26)) = true := by kernel_rfl
theorem diffApplies_k13 : ((Rows.diffAppliesRow.maps == (Try.f26.params.toList ++ Rows.diffAppliesSpec.plain.varTypes Try.prog).any (Try.prog.mapsRec ·))) = true := by kernel_rfl
theorem diffApplies_k14 : ((Rows.diffAppliesRow.ifaces == (Try.f26.params.toList ++ Rows.diffAppliesSpec.plain.varTypes Try.prog).any (Try.prog.ifacesRec ·))) = true := by kernel_rfl
theorem diffApplies_k15 : ((Rows.diffAppliesRow.mapsOut == Try.prog.mapsAmong Try.f26.resultTypes.toList)) = true := by kernel_rfl
theorem diffApplies_k16 : ((Rows.diffAppliesRow.loops == (Try.f26.params.toList ++ Rows.diffAppliesSpec.plain.varTypes Try.prog).any (Try.prog.loopsFrom ·))) = true := by kernel_rfl
theorem diffApplies_k17 : ((Rows.diffAppliesRow.wideKeys == (Try.f26.params.toList ++ Rows.diffAppliesSpec.plain.varTypes Try.prog ++ Try.f26.resultTypes.toList).any (Try.prog.wideKeysFrom ·))) = true := by kernel_rfl
theorem diffApplies_k18 : (Rows.diffAppliesSpec.vars.all (Try.prog.varReadable ·)) = true := by kernel_rfl
theorem diffApplies_k19 : (Try.f26.resultTypes.all (fun t => Try.prog.readableRec t && decide (t < Try.prog.types.size))) = true := by kernel_rfl
theorem diffApplies_k20 : ((Rows.diffAppliesRow.ifacesOut == Try.f26.resultTypes.toList.any (Try.prog.ifacesRec ·))) = true := by kernel_rfl
theorem diffApplies_k21 : ((Rows.diffAppliesRow.loopsOut == Try.f26.resultTypes.toList.any (Try.prog.loopsFrom ·))) = true := by kernel_rfl
theorem diffApplies_k22 : ((Rows.diffAppliesRow.plainKeys == Try.prog.plainKeys)) = true := by kernel_rfl
theorem diffApplies_k23 : (Rows.diffAppliesRow.shortTexts.isNone) = true := by kernel_rfl
theorem diffApplies_k24 : (Try.prog.stopsHeard) = true := by kernel_rfl
theorem diffApplies_k25 : (Try.prog.mayEnter) = true := mayEnter_of Try.prog (behindMainWord (wordsSigns initSigns)) (congrArg (fun l => behindMainWord (wordsSigns l)) initL) initStrip1 initStrip2 initLays initReflect initDoors
theorem diffApplies_k26 : ((Rows.diffAppliesRow.lifted == Try.prog.liftsFinal)) = true := beq_of (liftsFinal_of Try.prog (behindMainWord (wordsSigns initSigns)) (congrArg (fun l => behindMainWord (wordsSigns l)) initL) initStrip1 initHead)
theorem diffApplies_k27 : ((Try.prog.make == some Rows.diffAppliesRow.make)) = true := by rw [make_of Try.prog (behindMainWord (wordsSigns initSigns)) (congrArg (fun l => behindMainWord (wordsSigns l)) initL) initHead]; rfl
theorem diffApplies_k28 : ((Rows.diffAppliesRow.kinds == [])) = true := by kernel_rfl
theorem diffApplies_k29 : ((Rows.diffAppliesRow.pinned == Rows.diffAppliesRow.pinnedBy)) = true := by kernel_rfl
theorem diffApplies_k30 : ((Rows.diffAppliesRow.veiled == (Try.f26.params.toList ++ Rows.diffAppliesSpec.plain.varTypes Try.prog ++ Try.f26.resultTypes.toList).any (Try.prog.veiledRec ·))) = true := by kernel_rfl
theorem diffApplies_k31 : (Rows.diffAppliesRow.veiledFits Try.prog Try.f26.params.toList (Try.f26.params.toList ++ Rows.diffAppliesSpec.plain.varTypes Try.prog ++ Try.f26.resultTypes.toList)) = true := by kernel_rfl
theorem diffApplies_dom : (Rows.diffAppliesRow.domain.isEmpty) = true := by kernel_rfl
theorem diffApplies_join : joinedFacts Try.prog 26 Try.f26 Rows.diffAppliesSpec Rows.diffAppliesRow = true :=
  join_of diffApplies_dom diffApplies_k0 diffApplies_k1 diffApplies_k2 diffApplies_k3 diffApplies_k4 diffApplies_k5 diffApplies_k6 diffApplies_k7 diffApplies_k8 diffApplies_k9 diffApplies_k10 diffApplies_k11 diffApplies_k12 diffApplies_k13 diffApplies_k14 diffApplies_k15 diffApplies_k16 diffApplies_k17 diffApplies_k18 diffApplies_k19 diffApplies_k20 diffApplies_k21 diffApplies_k22 diffApplies_k23 diffApplies_k24 diffApplies_k25 diffApplies_k26 diffApplies_k27 diffApplies_k28 diffApplies_k29 diffApplies_k30 diffApplies_k31
theorem diffApplies_reads : ∀ t ∈ Try.f26.params.toList, Try.prog.readableRec t = true ∧ t < Try.prog.types.size := by
  have h : (Try.f26.params.toList.all fun t => Try.prog.readableRec t && decide (t < Try.prog.types.size)) = true := by kernel_rfl
  intro t ht
  simpa using List.all_eq_true.1 h t ht
theorem diffApplies_lifted (os : Os) (started : os.Started) (H : Type) (enc : TypeId × Value → H) :
    ReturnsInHanded {} Try.checked os 26 .any (Rows.diffAppliesSpec.pre6 enc Try.prog Try.f26 Rows.diffAppliesRow.domain false) (Rows.diffAppliesSpec.post enc Try.prog Try.f26 false true false false) := by
  refine returnsInHanded_w (C := Try.checked) ownNone started (by kernel_rfl) Try.func26
    (ChangeSpec.witness6 (enc := enc) (C := Try.checked) false ⟨#[], #[.slice none 0 0, .slice none 0 0], []⟩ 8 (by kernel_rfl) (by kernel_rfl) (by kernel_rfl) (by kernel_rfl)) ?_
  intro W base args ds gs before hval0 hW hwt
  have hval : ∀ (j : Nat) t v, Try.f26.params[j]? = some t → args[j]? = some v → Value.okWide Try.prog W .any base t v := hval0
  have hW' := hW
  obtain ⟨p, q, hA0, hV, rfl, hfz, hnd⟩ := hW
  have hA : DataW.TrodAll enc Try.prog W 0 (fun _ => true) true Try.f26.params.toList args.toList ds p := hA0
  have hA1 := hA
  rw [Try.params26] at hA hval
  obtain ⟨v0, vs0, d0, ds0, p0, q0, hargs, rfl, rfl, h0, r0⟩ := trodAll_cons hA
  obtain ⟨v1, vs1, d1, ds1, p1, q1, rfl, rfl, rfl, h1, r1⟩ := trodAll_cons r0
  obtain ⟨rfl, rfl, rfl⟩ := trodAll_nil r1
  obtain rfl : args = #[v0, v1] := by cases args; simp_all
  obtain ⟨rfl, rfl⟩ := trodVars_none hV
  clear hA0 hval0 hargs
  have w0 : WOk Try.prog 53 d0 := weightsEach_at hwt 0 _ _ (by kernel_rfl) rfl
  obtain ⟨fuel0, f0⟩ := h0
  obtain ⟨s0, xs0, hc0, hr0⟩ := es_of_trod f0 w0
  obtain ⟨ad0, n0, c0, rfl⟩ := okWide_slice Try.underlying53 (hval 0 53 v0 rfl rfl)
  have e0 : Value.slice ad0 n0 c0 = .slice s0.a xs0.length s0.c := by simpa [Value.cells] using hc0
  rw [e0] at hA1 hW' ⊢
  have w1 : WOk Try.prog 131 d1 := weightsEach_at hwt 1 _ _ (by kernel_rfl) rfl
  obtain ⟨fuel1, f1⟩ := h1
  obtain ⟨s1, xs1, hc1, hr1⟩ := changes_of_trod f1 w1
  obtain ⟨ad1, n1, c1, rfl⟩ := okWide_slice Try.underlying131 (hval 1 131 v1 rfl rfl)
  have e1 : Value.slice ad1 n1 c1 = .slice s1.a xs1.length s1.c := by simpa [Value.cells] using hc1
  rw [e1] at hA1 hW' ⊢
  refine (diffapplies_w s0 xs0 s1 xs1 W hr0 hr1).mono fun e W' ⟨he, hg⟩ => ?_
  subst he
  have hB : Below W.heap.size W W' := hg.below
  have hlt := DataW.Whole.lt hW'
  exact ⟨_, rfl, post_of_below (pv := []) hW' (fun _ _ _ => (trodAll_cons_mk (shut_bool Try.underlying4 _) trodAll_mk0)) (fun sp hsp => trodAll_stays diffApplies_k1 hB sp diffApplies_reads hA1 (fun z hz => hlt z (by simpa using hz)) (fun z hz => hsp z (by simpa using hz))) (fun _ _ => rfl) rfl
    hB (ok_one (by kernel_rfl) rfl (okWide_bool_mk Try.underlying4 _))⟩
theorem diffApplies_holds : Rows.diffAppliesRow.holds Try.pinned (OpenSpec.ofChange Rows.diffAppliesSpec) :=
  OpenClaim.holds_of_wide 26 Try.f26 rfl rfl rfl rfl rfl rfl rfl ⟨rfl, rfl, rfl, rfl, rfl⟩ rfl rfl rfl rfl rfl (by kernel_rfl) Try.func26 diffApplies_join
    (of_decide_eq_true (by kernel_rfl)) (by unfold Func.isWrapper; first | (rw [if_pos (by decide +kernel)]; kernel_rfl) | (rw [if_neg (by decide +kernel)]; exact ⟨rfl, rfl⟩))
    (fun os started H enc _ => diffApplies_lifted os started H enc)
theorem diffApplies_said : Rows.DiffAppliesSaid := diffApplies_holds
#print axioms diffApplies_said
end Go.Proofs.Ytpapoalgocmlaaa
