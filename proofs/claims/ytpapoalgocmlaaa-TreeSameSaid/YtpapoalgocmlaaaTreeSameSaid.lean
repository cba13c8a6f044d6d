/- The statement TreeSame: whatever the input, the law answers true, and the input reads as it did; no condition. -/
import Derived.Test.YtpapoalgocmlaaaFacts
import Derived.Test.YtpapoalgocmlaaaMf
import Derived.Test.YtpapoalgocmlaaaTreeSame
import Derived.ShutString
namespace Go.Proofs.Ytpapoalgocmlaaa
open Go.ChangeShapes Go.WideShapes Go.ChangeAt Go.RowKit
set_option linter.unusedVariables false
set_option linter.unusedSimpArgs false
set_option maxRecDepth 100000
open Go.ChangeMaps (open_string shut_string)
theorem treeSame_k0 : (Rows.treeSameRow.wf (OpenSpec.ofChange Rows.treeSameSpec)) = true := by kernel_rfl
theorem treeSame_k1 : (laidOutB Try.prog) = true := by kernel_rfl
theorem treeSame_k2 : (mapsRowed Try.prog) = true := by kernel_rfl
theorem treeSame_k3 : (Try.f21.params.all (Try.prog.readableRec ·)) = true := by kernel_rfl
theorem treeSame_k4 : (namedTie Try.prog Rows.treeSameRow.named Rows.treeSameSpec.vars) = true := by kernel_rfl
theorem treeSame_k5 : ((Rows.treeSameRow.stops == [])) = true := by kernel_rfl
theorem treeSame_k6 : ((Try.prog.stops == [])) = true := by kernel_rfl
theorem treeSame_k7 : ((Rows.treeSameRow.knobs == [])) = true := by kernel_rfl
theorem treeSame_k8 : ((Try.prog.stopKnobs == [])) = true := by kernel_rfl
theorem treeSame_k9 : ((Rows.treeSameRow.inPlace == Try.prog.inPlace 21)) = true := by kernel_rfl
theorem treeSame_k10 : ((Rows.treeSameRow.unfollowed == Try.prog.unfollowed 21)) = true := by kernel_rfl
theorem treeSame_k11 : ((Rows.treeSameRow.recurses == Try.prog.recurses 21)) = true := by kernel_rfl
theorem treeSame_k12 : ((Rows.treeSameRow.named == Try.prog.varsNamed 21)) = true := by kernel_rfl
theorem treeSame_k13 : ((Rows.treeSameRow.maps == (Try.f21.params.toList ++ Rows.treeSameSpec.plain.varTypes Try.prog).any (Try.prog.mapsRec ·))) = true := by kernel_rfl
theorem treeSame_k14 : ((Rows.treeSameRow.ifaces == (Try.f21.params.toList ++ Rows.treeSameSpec.plain.varTypes Try.prog).any (Try.prog.ifacesRec ·))) = true := by kernel_rfl
theorem treeSame_k15 : ((Rows.treeSameRow.mapsOut == Try.prog.mapsAmong Try.f21.resultTypes.toList)) = true := by kernel_rfl
theorem treeSame_k16 : ((Rows.treeSameRow.loops == (Try.f21.params.toList ++ Rows.treeSameSpec.plain.varTypes Try.prog).any (Try.prog.loopsFrom ·))) = true := by kernel_rfl
theorem treeSame_k17 : ((Rows.treeSameRow.wideKeys == (Try.f21.params.toList ++ Rows.treeSameSpec.plain.varTypes Try.prog ++ Try.f21.resultTypes.toList).any (Try.prog.wideKeysFrom ·))) = true := by kernel_rfl
theorem treeSame_k18 : (Rows.treeSameSpec.vars.all (Try.prog.varReadable ·)) = true := by kernel_rfl
theorem treeSame_k19 : (Try.f21.resultTypes.all (fun t => Try.prog.readableRec t && decide (t < Try.prog.types.size))) = true := by kernel_rfl
theorem treeSame_k20 : ((Rows.treeSameRow.ifacesOut == Try.f21.resultTypes.toList.any (Try.prog.ifacesRec ·))) = true := by kernel_rfl
theorem treeSame_k21 : ((Rows.treeSameRow.loopsOut == Try.f21.resultTypes.toList.any (Try.prog.loopsFrom ·))) = true := by kernel_rfl
theorem treeSame_k22 : ((Rows.treeSameRow.plainKeys == Try.prog.plainKeys)) = true := by kernel_rfl
theorem treeSame_k23 : (Rows.treeSameRow.shortTexts.isNone) = true := by kernel_rfl
theorem treeSame_k24 : (Try.prog.stopsHeard) = true := by kernel_rfl
theorem treeSame_k25 : (Try.prog.mayEnter) = true := mayEnter_of Try.prog (behindMainWord (wordsSigns initSigns)) (congrArg (fun l => behindMainWord (wordsSigns l)) initL) initStrip1 initStrip2 initLays initReflect initDoors
theorem treeSame_k26 : ((Rows.treeSameRow.lifted == Try.prog.liftsFinal)) = true := beq_of (liftsFinal_of Try.prog (behindMainWord (wordsSigns initSigns)) (congrArg (fun l => behindMainWord (wordsSigns l)) initL) initStrip1 initHead)
theorem treeSame_k27 : ((Try.prog.make == some Rows.treeSameRow.make)) = true := by rw [make_of Try.prog (behindMainWord (wordsSigns initSigns)) (congrArg (fun l => behindMainWord (wordsSigns l)) initL) initHead]; rfl
theorem treeSame_k28 : ((Rows.treeSameRow.kinds == [])) = true := by kernel_rfl
theorem treeSame_k29 : ((Rows.treeSameRow.pinned == Rows.treeSameRow.pinnedBy)) = true := by kernel_rfl
theorem treeSame_k30 : ((Rows.treeSameRow.veiled == (Try.f21.params.toList ++ Rows.treeSameSpec.plain.varTypes Try.prog ++ Try.f21.resultTypes.toList).any (Try.prog.veiledRec ·))) = true := by kernel_rfl
theorem treeSame_k31 : (Rows.treeSameRow.veiledFits Try.prog Try.f21.params.toList (Try.f21.params.toList ++ Rows.treeSameSpec.plain.varTypes Try.prog ++ Try.f21.resultTypes.toList)) = true := by kernel_rfl
theorem treeSame_dom : (Rows.treeSameRow.domain.isEmpty) = true := by kernel_rfl
theorem treeSame_join : joinedFacts Try.prog 21 Try.f21 Rows.treeSameSpec Rows.treeSameRow = true :=
  join_of treeSame_dom treeSame_k0 treeSame_k1 treeSame_k2 treeSame_k3 treeSame_k4 treeSame_k5 treeSame_k6 treeSame_k7 treeSame_k8 treeSame_k9 treeSame_k10 treeSame_k11 treeSame_k12 treeSame_k13 treeSame_k14 treeSame_k15 treeSame_k16 treeSame_k17 treeSame_k18 treeSame_k19 treeSame_k20 treeSame_k21 treeSame_k22 treeSame_k23 treeSame_k24 treeSame_k25 treeSame_k26 treeSame_k27 treeSame_k28 treeSame_k29 treeSame_k30 treeSame_k31
theorem treeSame_reads : ∀ t ∈ Try.f21.params.toList, Try.prog.readableRec t = true ∧ t < Try.prog.types.size := by
  have h : (Try.f21.params.toList.all fun t => Try.prog.readableRec t && decide (t < Try.prog.types.size)) = true := by kernel_rfl
  intro t ht
  simpa using List.all_eq_true.1 h t ht
theorem treeSame_lifted (os : Os) (started : os.Started) (H : Type) (enc : TypeId × Value → H) :
    ReturnsInHanded {} Try.checked os 21 .any (Rows.treeSameSpec.pre6 enc Try.prog Try.f21 Rows.treeSameRow.domain false) (Rows.treeSameSpec.post enc Try.prog Try.f21 false true false false) := by
  refine returnsInHanded_w (C := Try.checked) ownNone started (by kernel_rfl) Try.func21
    (ChangeSpec.witness6 (enc := enc) (C := Try.checked) false ⟨#[], #[.slice none 0 0, .slice none 0 0], []⟩ 8 (by kernel_rfl) (by kernel_rfl) (by kernel_rfl) (by kernel_rfl)) ?_
  intro W base args ds gs before hval0 hW hwt
  have hval : ∀ (j : Nat) t v, Try.f21.params[j]? = some t → args[j]? = some v → Value.okWide Try.prog W .any base t v := hval0
  have hW' := hW
  obtain ⟨p, q, hA0, hV, rfl, hfz, hnd⟩ := hW
  have hA : DataW.TrodAll enc Try.prog W 0 (fun _ => true) true Try.f21.params.toList args.toList ds p := hA0
  have hA1 := hA
  rw [Try.params21] at hA hval
  obtain ⟨v0, vs0, d0, ds0, p0, q0, hargs, rfl, rfl, h0, r0⟩ := trodAll_cons hA
  obtain ⟨v1, vs1, d1, ds1, p1, q1, rfl, rfl, rfl, h1, r1⟩ := trodAll_cons r0
  obtain ⟨rfl, rfl, rfl⟩ := trodAll_nil r1
  obtain rfl : args = #[v0, v1] := by cases args; simp_all
  obtain ⟨rfl, rfl⟩ := trodVars_none hV
  clear hA0 hval0 hargs
  have w0 : WOk Try.prog 79 d0 := weightsEach_at hwt 0 _ _ (by kernel_rfl) rfl
  obtain ⟨fuel0, f0⟩ := h0
  obtain ⟨s0, xs0, hc0, hr0⟩ := acts_of_trod f0 w0
  obtain ⟨ad0, n0, c0, rfl⟩ := okWide_slice Try.underlying79 (hval 0 79 v0 rfl rfl)
  have e0 : Value.slice ad0 n0 c0 = .slice s0.a xs0.length s0.c := by simpa [Value.cells] using hc0
  rw [e0] at hA1 hW' ⊢
  have w1 : WOk Try.prog 79 d1 := weightsEach_at hwt 1 _ _ (by kernel_rfl) rfl
  obtain ⟨fuel1, f1⟩ := h1
  obtain ⟨s1, xs1, hc1, hr1⟩ := acts_of_trod f1 w1
  obtain ⟨ad1, n1, c1, rfl⟩ := okWide_slice Try.underlying79 (hval 1 79 v1 rfl rfl)
  have e1 : Value.slice ad1 n1 c1 = .slice s1.a xs1.length s1.c := by simpa [Value.cells] using hc1
  rw [e1] at hA1 hW' ⊢
  refine (treesame_w s0 xs0 s1 xs1 W hr0 hr1).mono fun e W' ⟨he, hg⟩ => ?_
  subst he
  have hB : Below W.heap.size W W' := hg.below
  have hlt := DataW.Whole.lt hW'
  exact ⟨_, rfl, post_of_below (pv := []) hW' (fun _ _ _ => (trodAll_cons_mk (shut_bool Try.underlying4 _) trodAll_mk0)) (fun sp hsp => trodAll_stays treeSame_k1 hB sp treeSame_reads hA1 (fun z hz => hlt z (by simpa using hz)) (fun z hz => hsp z (by simpa using hz))) (fun _ _ => rfl) rfl
    hB (ok_one (by kernel_rfl) rfl (okWide_bool_mk Try.underlying4 _))⟩
theorem treeSame_holds : Rows.treeSameRow.holds Try.pinned (OpenSpec.ofChange Rows.treeSameSpec) :=
  OpenClaim.holds_of_wide 21 Try.f21 rfl rfl rfl rfl rfl rfl rfl ⟨rfl, rfl, rfl, rfl, rfl⟩ rfl rfl rfl rfl rfl (by kernel_rfl) Try.func21 treeSame_join
    (of_decide_eq_true (by kernel_rfl)) (by unfold Func.isWrapper; first | (rw [if_pos (by decide +kernel)]; kernel_rfl) | (rw [if_neg (by decide +kernel)]; exact ⟨rfl, rfl⟩))
    (fun os started H enc _ => treeSame_lifted os started H enc)
theorem treeSame_said : Rows.TreeSameSaid := treeSame_holds
#print axioms treeSame_said
end Go.Proofs.Ytpapoalgocmlaaa
