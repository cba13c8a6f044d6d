/- The statement DiffTells: whatever the input, the law answers true, and the input reads as it did; no condition. -/
import Derived.Test.YtpapoalgocmlaaaPtFacts
import Derived.Test.YtpapoalgocmlaaaPta
import Derived.Test.YtpapoalgocmlaaaPtb
import Derived.Test.YtpapoalgocmlaaaPtc
import Derived.Test.YtpapoalgocmlaaaPtd
import Derived.Test.YtpapoalgocmlaaaPte
import Derived.Test.YtpapoalgocmlaaaPtf
import Derived.Test.YtpapoalgocmlaaaPtg
import Derived.Test.YtpapoalgocmlaaaPth
import Derived.Test.YtpapoalgocmlaaaPti
import Derived.ShutString
namespace Go.Proofs.Ytpapoalgocmlaaa
open Go.ChangeShapes Go.WideShapes Go.ChangeAt Go.RowKit
set_option linter.unusedVariables false
set_option linter.unusedSimpArgs false
set_option linter.unnecessarySimpa false
set_option maxRecDepth 100000
open Go.ChangeMaps (open_string shut_string)
theorem diffTells_k0 : (Rows.diffTellsRow.wf (OpenSpec.ofChange Rows.diffTellsSpec)) = true := by kernel_rfl
theorem diffTells_k1 : (laidOutB Try.prog) = true := by kernel_rfl
theorem diffTells_k2 : (mapsRowed Try.prog) = true := by kernel_rfl
theorem diffTells_k3 : (Try.f24.params.all (Try.prog.readableRec ·)) = true := by kernel_rfl
theorem diffTells_k4 : (namedTie Try.prog Rows.diffTellsRow.named Rows.diffTellsSpec.vars) = true := by kernel_rfl
theorem diffTells_k5 : ((Rows.diffTellsRow.stops == [])) = true := by kernel_rfl
theorem diffTells_k6 : ((Try.prog.stops == [])) = true := by kernel_rfl
theorem diffTells_k7 : ((Rows.diffTellsRow.knobs == [])) = true := by kernel_rfl
theorem diffTells_k8 : ((Try.prog.stopKnobs == [])) = true := by kernel_rfl
theorem diffTells_k9 : ((Rows.diffTellsRow.inPlace == Try.prog.inPlace 24)) = true := by kernel_rfl
theorem diffTells_k10 : ((Rows.diffTellsRow.unfollowed == Try.prog.unfollowed 24)) = true := by kernel_rfl
theorem diffTells_k11 : ((Rows.diffTellsRow.recurses == Try.prog.recurses 24)) = true := by kernel_rfl
theorem diffTells_k12 : ((Rows.diffTellsRow.named == Try.prog.varsNamed 24)) = true := by kernel_rfl
theorem diffTells_k13 : ((Rows.diffTellsRow.maps == (Try.f24.params.toList ++ Rows.diffTellsSpec.plain.varTypes Try.prog).any (Try.prog.mapsRec ·))) = true := by kernel_rfl
theorem diffTells_k14 : ((Rows.diffTellsRow.ifaces == (Try.f24.params.toList ++ Rows.diffTellsSpec.plain.varTypes Try.prog).any (Try.prog.ifacesRec ·))) = true := by kernel_rfl
theorem diffTells_k15 : ((Rows.diffTellsRow.mapsOut == Try.prog.mapsAmong Try.f24.resultTypes.toList)) = true := by kernel_rfl
theorem diffTells_k16 : ((Rows.diffTellsRow.loops == (Try.f24.params.toList ++ Rows.diffTellsSpec.plain.varTypes Try.prog).any (Try.prog.loopsFrom ·))) = true := by kernel_rfl
theorem diffTells_k17 : ((Rows.diffTellsRow.wideKeys == (Try.f24.params.toList ++ Rows.diffTellsSpec.plain.varTypes Try.prog ++ Try.f24.resultTypes.toList).any (Try.prog.wideKeysFrom ·))) = true := by kernel_rfl
theorem diffTells_k18 : (Rows.diffTellsSpec.vars.all (Try.prog.varReadable ·)) = true := by kernel_rfl
theorem diffTells_k19 : (Try.f24.resultTypes.all (fun t => Try.prog.readableRec t && decide (t < Try.prog.types.size))) = true := by kernel_rfl
theorem diffTells_k20 : ((Rows.diffTellsRow.ifacesOut == Try.f24.resultTypes.toList.any (Try.prog.ifacesRec ·))) = true := by kernel_rfl
theorem diffTells_k21 : ((Rows.diffTellsRow.loopsOut == Try.f24.resultTypes.toList.any (Try.prog.loopsFrom ·))) = true := by kernel_rfl
theorem diffTells_k22 : ((Rows.diffTellsRow.plainKeys == Try.prog.plainKeys)) = true := by kernel_rfl
theorem diffTells_k23 : (Rows.diffTellsRow.shortTexts.isNone) = true := by kernel_rfl
theorem diffTells_k24 : (Try.prog.stopsHeard) = true := by kernel_rfl
theorem diffTells_k25 : (Try.prog.mayEnter) = true := mayEnter_of Try.prog (behindMainWord (wordsSigns initSigns)) (congrArg (fun l => behindMainWord (wordsSigns l)) initL) initStrip1 initStrip2 initLays initReflect initDoors
theorem diffTells_k26 : ((Rows.diffTellsRow.lifted == Try.prog.liftsFinal)) = true := beq_of (liftsFinal_of Try.prog (behindMainWord (wordsSigns initSigns)) (congrArg (fun l => behindMainWord (wordsSigns l)) initL) initStrip1 initHead)
theorem diffTells_k27 : ((Try.prog.make == some Rows.diffTellsRow.make)) = true := by rw [make_of Try.prog (behindMainWord (wordsSigns initSigns)) (congrArg (fun l => behindMainWord (wordsSigns l)) initL) initHead]; rfl
theorem diffTells_k28 : ((Rows.diffTellsRow.kinds == [])) = true := by kernel_rfl
theorem diffTells_k29 : ((Rows.diffTellsRow.pinned == Rows.diffTellsRow.pinnedBy)) = true := by kernel_rfl
theorem diffTells_k30 : ((Rows.diffTellsRow.veiled == (Try.f24.params.toList ++ Rows.diffTellsSpec.plain.varTypes Try.prog ++ Try.f24.resultTypes.toList).any (Try.prog.veiledRec ·))) = true := by kernel_rfl
theorem diffTells_k31 : (Rows.diffTellsRow.veiledFits Try.prog Try.f24.params.toList (Try.f24.params.toList ++ Rows.diffTellsSpec.plain.varTypes Try.prog ++ Try.f24.resultTypes.toList)) = true := by kernel_rfl
theorem diffTells_dom : (Rows.diffTellsRow.domain.isEmpty) = true := by kernel_rfl
theorem diffTells_join : joinedFacts Try.prog 24 Try.f24 Rows.diffTellsSpec Rows.diffTellsRow = true :=
  join_of diffTells_dom diffTells_k0 diffTells_k1 diffTells_k2 diffTells_k3 diffTells_k4 diffTells_k5 diffTells_k6 diffTells_k7 diffTells_k8 diffTells_k9 diffTells_k10 diffTells_k11 diffTells_k12 diffTells_k13 diffTells_k14 diffTells_k15 diffTells_k16 diffTells_k17 diffTells_k18 diffTells_k19 diffTells_k20 diffTells_k21 diffTells_k22 diffTells_k23 diffTells_k24 diffTells_k25 diffTells_k26 diffTells_k27 diffTells_k28 diffTells_k29 diffTells_k30 diffTells_k31
theorem diffTells_reads : ∀ t ∈ Try.f24.params.toList, Try.prog.readableRec t = true ∧ t < Try.prog.types.size := by
  have h : (Try.f24.params.toList.all fun t => Try.prog.readableRec t && decide (t < Try.prog.types.size)) = true := by kernel_rfl
  intro t ht
  simpa using List.all_eq_true.1 h t ht
theorem diffTells_lifted (os : Os) (started : os.Started) (H : Type) (enc : TypeId × Value → H) :
    ReturnsInHanded {} Try.checked os 24 .any (Rows.diffTellsSpec.pre6 enc Try.prog Try.f24 Rows.diffTellsRow.domain false) (Rows.diffTellsSpec.post enc Try.prog Try.f24 false true false false) := by
  refine returnsInHanded_w (C := Try.checked) ownNone started (by kernel_rfl) Try.func24
    (ChangeSpec.witness6 (enc := enc) (C := Try.checked) false ⟨#[], #[.slice none 0 0, .slice none 0 0, .slice none 0 0, .bool false], []⟩ 8 (by kernel_rfl) (by kernel_rfl) (by kernel_rfl) (by kernel_rfl)) ?_
  intro W base args ds gs before hval0 hW hwt
  have hval : ∀ (j : Nat) t v, Try.f24.params[j]? = some t → args[j]? = some v → Value.okWide Try.prog W .any base t v := hval0
  have hW' := hW
  obtain ⟨p, q, hA0, hV, rfl, hfz, hnd⟩ := hW
  have hA : DataW.TrodAll enc Try.prog W 0 (fun _ => true) true Try.f24.params.toList args.toList ds p := hA0
  have hA1 := hA
  rw [Try.params24] at hA hval
  obtain ⟨v0, vs0, d0, ds0, p0, q0, hargs, rfl, rfl, h0, r0⟩ := trodAll_cons hA
  obtain ⟨v1, vs1, d1, ds1, p1, q1, rfl, rfl, rfl, h1, r1⟩ := trodAll_cons r0
  obtain ⟨v2, vs2, d2, ds2, p2, q2, rfl, rfl, rfl, h2, r2⟩ := trodAll_cons r1
  obtain ⟨v3, vs3, d3, ds3, p3, q3, rfl, rfl, rfl, h3, r3⟩ := trodAll_cons r2
  obtain ⟨rfl, rfl, rfl⟩ := trodAll_nil r3
  obtain rfl : args = #[v0, v1, v2, v3] := by cases args; simp_all
  obtain ⟨rfl, rfl⟩ := trodVars_none hV
  clear hA0 hval0 hargs
  have w0 : WOk Try.prog 79 d0 := weightsEach_at hwt 0 _ _ (by kernel_rfl) rfl
  obtain ⟨fuel0, f0⟩ := h0
  obtain ⟨s0, xs0, hc0, hr0⟩ := acts_of_trod f0 w0
  obtain ⟨ad0, n0, c0, rfl⟩ := okWide_slice Try.underlying79 (hval 0 79 v0 rfl rfl)
  have e0 : Value.slice ad0 n0 c0 = .slice s0.a xs0.length s0.c := by simpa [Value.cells] using hc0
  rw [e0] at hA1 hW' ⊢
  have w1 : WOk Try.prog 79 d1 := weightsEach_at hwt 1 _ _ (by kernel_rfl) rfl
  obtain ⟨fuel1, f1⟩ := h1
  obtain ⟨s1, xs1, hc1, hr1⟩ := acts_of_trod f1 w1
  obtain ⟨ad1, n1, c1, rfl⟩ := okWide_slice Try.underlying79 (hval 1 79 v1 rfl rfl)
  have e1 : Value.slice ad1 n1 c1 = .slice s1.a xs1.length s1.c := by simpa [Value.cells] using hc1
  rw [e1] at hA1 hW' ⊢
  have w2 : WOk Try.prog 79 d2 := weightsEach_at hwt 2 _ _ (by kernel_rfl) rfl
  obtain ⟨fuel2, f2⟩ := h2
  obtain ⟨s2, xs2, hc2, hr2⟩ := acts_of_trod f2 w2
  obtain ⟨ad2, n2, c2, rfl⟩ := okWide_slice Try.underlying79 (hval 2 79 v2 rfl rfl)
  have e2 : Value.slice ad2 n2 c2 = .slice s2.a xs2.length s2.c := by simpa [Value.cells] using hc2
  rw [e2] at hA1 hW' ⊢
  obtain ⟨a3, rfl, rfl, rfl⟩ := open_bool Try.underlying4 (hval 3 4 v3 rfl rfl) h3
  refine (difftells_w s0 xs0 s1 xs1 s2 xs2 a3 W hr0 hr1 hr2).mono fun e W' ⟨he, hg⟩ => ?_
  subst he
  have hB : Below W.heap.size W W' := hg.below
  have hlt := DataW.Whole.lt hW'
  exact ⟨_, rfl, post_of_below (pv := []) hW' (fun _ _ _ => (trodAll_cons_mk (shut_bool Try.underlying4 _) trodAll_mk0)) (fun sp hsp => trodAll_stays diffTells_k1 hB sp diffTells_reads hA1 (fun z hz => hlt z (by simpa using hz)) (fun z hz => hsp z (by simpa using hz))) (fun _ _ => rfl) rfl
    hB (ok_one (by kernel_rfl) rfl (okWide_bool_mk Try.underlying4 _))⟩
theorem diffTells_holds : Rows.diffTellsRow.holds Try.pinned (OpenSpec.ofChange Rows.diffTellsSpec) :=
  OpenClaim.holds_of_wide 24 Try.f24 rfl rfl rfl rfl rfl rfl rfl ⟨rfl, rfl, rfl, rfl, rfl⟩ rfl rfl rfl rfl rfl (by kernel_rfl) Try.func24 diffTells_join
    (of_decide_eq_true (by kernel_rfl)) (by unfold Func.isWrapper; first | (rw [if_pos (by decide +kernel)]; kernel_rfl) | (rw [if_neg (by decide +kernel)]; exact ⟨rfl, rfl⟩))
    (fun os started H enc _ => diffTells_lifted os started H enc)
theorem diffTells_said : Rows.DiffTellsSaid := diffTells_holds
#print axioms diffTells_said
end Go.Proofs.Ytpapoalgocmlaaa
