/- The statement DiffShares: whatever the input, the law answers true, and the input reads as it did; no condition. -/
import Derived.Test.YtpapoalgocmlaaaGreatPzFacts
import Derived.Test.YtpapoalgocmlaaaGreatPza
import Derived.Test.YtpapoalgocmlaaaGreatPzb
import Derived.Test.YtpapoalgocmlaaaGreatPzc
import Derived.Test.YtpapoalgocmlaaaGreatPzd
import Derived.Test.YtpapoalgocmlaaaGreatPze
import Derived.Test.YtpapoalgocmlaaaGreatPzf
import Derived.Test.YtpapoalgocmlaaaGreatPzg
import Derived.Test.YtpapoalgocmlaaaGreatPzh
import Derived.Test.YtpapoalgocmlaaaGreatPzi
import Derived.Test.YtpapoalgocmlaaaGreatPzj
import Derived.Test.YtpapoalgocmlaaaGreatPzk
import Derived.ShutString
namespace Go.Proofs.YtpapoalgocmlaaaGreat
open Go.ChangeShapes Go.WideShapes Go.ChangeAt Go.RowKit
set_option linter.unusedVariables false
set_option linter.unusedSimpArgs false
set_option linter.unnecessarySimpa false
set_option maxRecDepth 100000
open Go.ChangeMaps (open_string shut_string)
theorem diffShares_k0 : (Rows.diffSharesRow.wf (OpenSpec.ofChange Rows.diffSharesSpec)) = true := by kernel_rfl
theorem diffShares_k1 : (laidOutB Tryz.prog) = true := by kernel_rfl
theorem diffShares_k2 : (mapsRowed Tryz.prog) = true := by kernel_rfl
theorem diffShares_k3 : (Tryz.f3.params.all (Tryz.prog.readableRec ·)) = true := by kernel_rfl
theorem diffShares_k4 : (namedTie Tryz.prog Rows.diffSharesRow.named Rows.diffSharesSpec.vars) = true := by kernel_rfl
theorem diffShares_k5 : ((Rows.diffSharesRow.stops == [])) = true := by kernel_rfl
theorem diffShares_k6 : ((Tryz.prog.stops == [])) = true := by kernel_rfl
theorem diffShares_k7 : ((Rows.diffSharesRow.knobs == [])) = true := by kernel_rfl
theorem diffShares_k8 : ((Tryz.prog.stopKnobs == [])) = true := by kernel_rfl
theorem diffShares_k9 : ((Rows.diffSharesRow.inPlace == Tryz.prog.inPlace 3)) = true := by kernel_rfl
theorem diffShares_k10 : ((Rows.diffSharesRow.unfollowed == Tryz.prog.unfollowed 3)) = true := by kernel_rfl
theorem diffShares_k11 : ((Rows.diffSharesRow.recurses == Tryz.prog.recurses 3)) = true := by kernel_rfl
theorem diffShares_k12 : ((Rows.diffSharesRow.named == Tryz.prog.varsNamed 3)) = true := by kernel_rfl
theorem diffShares_k13 : ((Rows.diffSharesRow.maps == (Tryz.f3.params.toList ++ Rows.diffSharesSpec.plain.varTypes Tryz.prog).any (Tryz.prog.mapsRec ·))) = true := by kernel_rfl
theorem diffShares_k14 : ((Rows.diffSharesRow.ifaces == (Tryz.f3.params.toList ++ Rows.diffSharesSpec.plain.varTypes Tryz.prog).any (Tryz.prog.ifacesRec ·))) = true := by kernel_rfl
theorem diffShares_k15 : ((Rows.diffSharesRow.mapsOut == Tryz.prog.mapsAmong Tryz.f3.resultTypes.toList)) = true := by kernel_rfl
theorem diffShares_k16 : ((Rows.diffSharesRow.loops == (Tryz.f3.params.toList ++ Rows.diffSharesSpec.plain.varTypes Tryz.prog).any (Tryz.prog.loopsFrom ·))) = true := by kernel_rfl
theorem diffShares_k17 : ((Rows.diffSharesRow.wideKeys == (Tryz.f3.params.toList ++ Rows.diffSharesSpec.plain.varTypes Tryz.prog ++ Tryz.f3.resultTypes.toList).any (Tryz.prog.wideKeysFrom ·))) = true := by kernel_rfl
theorem diffShares_k18 : (Rows.diffSharesSpec.vars.all (Tryz.prog.varReadable ·)) = true := by kernel_rfl
theorem diffShares_k19 : (Tryz.f3.resultTypes.all (fun t => Tryz.prog.readableRec t && decide (t < Tryz.prog.types.size))) = true := by kernel_rfl
theorem diffShares_k20 : ((Rows.diffSharesRow.ifacesOut == Tryz.f3.resultTypes.toList.any (Tryz.prog.ifacesRec ·))) = true := by kernel_rfl
theorem diffShares_k21 : ((Rows.diffSharesRow.loopsOut == Tryz.f3.resultTypes.toList.any (Tryz.prog.loopsFrom ·))) = true := by kernel_rfl
theorem diffShares_k22 : ((Rows.diffSharesRow.plainKeys == Tryz.prog.plainKeys)) = true := by kernel_rfl
theorem diffShares_k23 : (Rows.diffSharesRow.shortTexts.isNone) = true := by kernel_rfl
theorem diffShares_k24 : (Tryz.prog.stopsHeard) = true := by kernel_rfl
theorem diffShares_k25 : (Tryz.prog.mayEnter) = true := mayEnter_of Tryz.prog (behindMainWord (wordsSigns initSigns)) (congrArg (fun l => behindMainWord (wordsSigns l)) initL) initStrip1 initStrip2 initLays initReflect initDoors
theorem diffShares_k26 : ((Rows.diffSharesRow.lifted == Tryz.prog.liftsFinal)) = true := beq_of (liftsFinal_of Tryz.prog (behindMainWord (wordsSigns initSigns)) (congrArg (fun l => behindMainWord (wordsSigns l)) initL) initStrip1 initHead)
theorem diffShares_k27 : ((Tryz.prog.make == some Rows.diffSharesRow.make)) = true := by rw [make_of Tryz.prog (behindMainWord (wordsSigns initSigns)) (congrArg (fun l => behindMainWord (wordsSigns l)) initL) initHead]; rfl
theorem diffShares_k28 : ((Rows.diffSharesRow.kinds == [])) = true := by kernel_rfl
theorem diffShares_k29 : ((Rows.diffSharesRow.pinned == Rows.diffSharesRow.pinnedBy)) = true := by kernel_rfl
theorem diffShares_k30 : ((Rows.diffSharesRow.veiled == (Tryz.f3.params.toList ++ Rows.diffSharesSpec.plain.varTypes Tryz.prog ++ Tryz.f3.resultTypes.toList).any (Tryz.prog.veiledRec ·))) = true := by kernel_rfl
theorem diffShares_k31 : (Rows.diffSharesRow.veiledFits Tryz.prog Tryz.f3.params.toList (Tryz.f3.params.toList ++ Rows.diffSharesSpec.plain.varTypes Tryz.prog ++ Tryz.f3.resultTypes.toList)) = true := by kernel_rfl
theorem diffShares_dom : (Rows.diffSharesRow.domain.isEmpty) = true := by kernel_rfl
theorem diffShares_join : joinedFacts Tryz.prog 3 Tryz.f3 Rows.diffSharesSpec Rows.diffSharesRow = true :=
  join_of diffShares_dom diffShares_k0 diffShares_k1 diffShares_k2 diffShares_k3 diffShares_k4 diffShares_k5 diffShares_k6 diffShares_k7 diffShares_k8 diffShares_k9 diffShares_k10 diffShares_k11 diffShares_k12 diffShares_k13 diffShares_k14 diffShares_k15 diffShares_k16 diffShares_k17 diffShares_k18 diffShares_k19 diffShares_k20 diffShares_k21 diffShares_k22 diffShares_k23 diffShares_k24 diffShares_k25 diffShares_k26 diffShares_k27 diffShares_k28 diffShares_k29 diffShares_k30 diffShares_k31
theorem diffShares_reads : ∀ t ∈ Tryz.f3.params.toList, Tryz.prog.readableRec t = true ∧ t < Tryz.prog.types.size := by
  have h : (Tryz.f3.params.toList.all fun t => Tryz.prog.readableRec t && decide (t < Tryz.prog.types.size)) = true := by kernel_rfl
  intro t ht
  simpa using List.all_eq_true.1 h t ht
theorem diffShares_lifted (os : Os) (started : os.Started) (H : Type) (enc : TypeId × Value → H) :
    ReturnsInHanded {} Tryz.checked os 3 .any (Rows.diffSharesSpec.pre6 enc Tryz.prog Tryz.f3 Rows.diffSharesRow.domain false) (Rows.diffSharesSpec.post enc Tryz.prog Tryz.f3 false true false false) := by
  refine returnsInHanded_w (C := Tryz.checked) ownNone started (by kernel_rfl) Tryz.func3
    (ChangeSpec.witness6 (enc := enc) (C := Tryz.checked) false ⟨#[], #[.slice none 0 0, .slice none 0 0, .slice none 0 0], []⟩ 8 (by kernel_rfl) (by kernel_rfl) (by kernel_rfl) (by kernel_rfl)) ?_
  intro W base args ds gs before hval0 hW hwt
  have hval : ∀ (j : Nat) t v, Tryz.f3.params[j]? = some t → args[j]? = some v → Value.okWide Tryz.prog W .any base t v := hval0
  have hW' := hW
  obtain ⟨p, q, hA0, hV, rfl, hfz, hnd⟩ := hW
  have hA : DataW.TrodAll enc Tryz.prog W 0 (fun _ => true) true Tryz.f3.params.toList args.toList ds p := hA0
  have hA1 := hA
  rw [Tryz.params3] at hA hval
  obtain ⟨v0, vs0, d0, ds0, p0, q0, hargs, rfl, rfl, h0, r0⟩ := trodAll_cons hA
  obtain ⟨v1, vs1, d1, ds1, p1, q1, rfl, rfl, rfl, h1, r1⟩ := trodAll_cons r0
  obtain ⟨v2, vs2, d2, ds2, p2, q2, rfl, rfl, rfl, h2, r2⟩ := trodAll_cons r1
  obtain ⟨rfl, rfl, rfl⟩ := trodAll_nil r2
  obtain rfl : args = #[v0, v1, v2] := by cases args; simp_all
  obtain ⟨rfl, rfl⟩ := trodVars_none hV
  clear hA0 hval0 hargs
  have w0 : WOk Tryz.prog 22 d0 := weightsEach_at hwt 0 _ _ (by kernel_rfl) rfl
  obtain ⟨fuel0, f0⟩ := h0
  obtain ⟨s0, xs0, hc0, hr0⟩ := acts_of_trod f0 w0
  obtain ⟨ad0, n0, c0, rfl⟩ := okWide_slice Tryz.underlying22 (hval 0 22 v0 rfl rfl)
  have e0 : Value.slice ad0 n0 c0 = .slice s0.a xs0.length s0.c := by simpa [Value.cells] using hc0
  rw [e0] at hA1 hW' ⊢
  have w1 : WOk Tryz.prog 22 d1 := weightsEach_at hwt 1 _ _ (by kernel_rfl) rfl
  obtain ⟨fuel1, f1⟩ := h1
  obtain ⟨s1, xs1, hc1, hr1⟩ := acts_of_trod f1 w1
  obtain ⟨ad1, n1, c1, rfl⟩ := okWide_slice Tryz.underlying22 (hval 1 22 v1 rfl rfl)
  have e1 : Value.slice ad1 n1 c1 = .slice s1.a xs1.length s1.c := by simpa [Value.cells] using hc1
  rw [e1] at hA1 hW' ⊢
  have w2 : WOk Tryz.prog 22 d2 := weightsEach_at hwt 2 _ _ (by kernel_rfl) rfl
  obtain ⟨fuel2, f2⟩ := h2
  obtain ⟨s2, xs2, hc2, hr2⟩ := acts_of_trod f2 w2
  obtain ⟨ad2, n2, c2, rfl⟩ := okWide_slice Tryz.underlying22 (hval 2 22 v2 rfl rfl)
  have e2 : Value.slice ad2 n2 c2 = .slice s2.a xs2.length s2.c := by simpa [Value.cells] using hc2
  rw [e2] at hA1 hW' ⊢
  refine (diffshares_w s0 xs0 s1 xs1 s2 xs2 W hr0 hr1 hr2).mono fun e W' ⟨he, hg⟩ => ?_
  subst he
  have hB : Below W.heap.size W W' := hg.below
  have hlt := DataW.Whole.lt hW'
  exact ⟨_, rfl, post_of_below (pv := []) hW' (fun _ _ _ => (trodAll_cons_mk (shut_bool Tryz.underlying4 _) trodAll_mk0)) (fun sp hsp => trodAll_stays diffShares_k1 hB sp diffShares_reads hA1 (fun z hz => hlt z (by simpa using hz)) (fun z hz => hsp z (by simpa using hz))) (fun _ _ => rfl) rfl
    hB (ok_one (by kernel_rfl) rfl (okWide_bool_mk Tryz.underlying4 _))⟩
theorem diffShares_holds : Rows.diffSharesRow.holds Tryz.pinned (OpenSpec.ofChange Rows.diffSharesSpec) :=
  OpenClaim.holds_of_wide 3 Tryz.f3 rfl rfl rfl rfl rfl rfl rfl ⟨rfl, rfl, rfl, rfl, rfl⟩ rfl rfl rfl rfl rfl (by kernel_rfl) Tryz.func3 diffShares_join
    (of_decide_eq_true (by kernel_rfl)) (by unfold Func.isWrapper; first | (rw [if_pos (by decide +kernel)]; kernel_rfl) | (rw [if_neg (by decide +kernel)]; exact ⟨rfl, rfl⟩))
    (fun os started H enc _ => diffShares_lifted os started H enc)
theorem diffShares_said : Rows.DiffSharesSaid := diffShares_holds
#print axioms diffShares_said
end Go.Proofs.YtpapoalgocmlaaaGreat
