/- The statement TreeKeeps: whatever the input, the law answers true, and the input reads as it did; no condition. -/
import Derived.Test.YtpapoalgocmlaaaFacts
import Derived.Test.YtpapoalgocmlaaaMf
import Derived.Test.YtpapoalgocmlaaaKeeps
import Derived.ShutString
namespace Go.Proofs.Ytpapoalgocmlaaa
open Go.ChangeShapes Go.WideShapes Go.ChangeAt Go.RowKit
set_option linter.unusedVariables false
set_option linter.unusedSimpArgs false
set_option maxRecDepth 100000
open Go.ChangeMaps (open_string shut_string)
theorem treeKeeps_k0 : (Rows.treeKeepsRow.wf (OpenSpec.ofChange Rows.treeKeepsSpec)) = true := by kernel_rfl
theorem treeKeeps_k1 : (laidOutB Try.prog) = true := by kernel_rfl
theorem treeKeeps_k2 : (mapsRowed Try.prog) = true := by kernel_rfl
theorem treeKeeps_k3 : (Try.f11.params.all (Try.prog.readableRec ·)) = true := by kernel_rfl
theorem treeKeeps_k4 : (namedTie Try.prog Rows.treeKeepsRow.named Rows.treeKeepsSpec.vars) = true := by kernel_rfl
theorem treeKeeps_k5 : ((Rows.treeKeepsRow.stops == [])) = true := by kernel_rfl
theorem treeKeeps_k6 : ((Try.prog.stops == [])) = true := by kernel_rfl
theorem treeKeeps_k7 : ((Rows.treeKeepsRow.knobs == [])) = true := by kernel_rfl
theorem treeKeeps_k8 : ((Try.prog.stopKnobs == [])) = true := by kernel_rfl
theorem treeKeeps_k9 : ((Rows.treeKeepsRow.inPlace == Try.prog.inPlace 11)) = true := by kernel_rfl
theorem treeKeeps_k10 : ((Rows.treeKeepsRow.unfollowed == Try.prog.unfollowed 11)) = true := by kernel_rfl
theorem treeKeeps_k11 : ((Rows.treeKeepsRow.recurses == Try.prog.recurses 11)) = true := by kernel_rfl
theorem treeKeeps_k12 : ((Rows.treeKeepsRow.named == Try.prog.varsNamed 11)) = true := by kernel_rfl
theorem treeKeeps_k13 : ((Rows.treeKeepsRow.maps == (Try.f11.params.toList ++ Rows.treeKeepsSpec.plain.varTypes Try.prog).any (Try.prog.mapsRec ·))) = true := by kernel_rfl
theorem treeKeeps_k14 : ((Rows.treeKeepsRow.ifaces == (Try.f11.params.toList ++ Rows.treeKeepsSpec.plain.varTypes Try.prog).any (Try.prog.ifacesRec ·))) = true := by kernel_rfl
theorem treeKeeps_k15 : ((Rows.treeKeepsRow.mapsOut == Try.prog.mapsAmong Try.f11.resultTypes.toList)) = true := by kernel_rfl
theorem treeKeeps_k16 : ((Rows.treeKeepsRow.loops == (Try.f11.params.toList ++ Rows.treeKeepsSpec.plain.varTypes Try.prog).any (Try.prog.loopsFrom ·))) = true := by kernel_rfl
theorem treeKeeps_k17 : ((Rows.treeKeepsRow.wideKeys == (Try.f11.params.toList ++ Rows.treeKeepsSpec.plain.varTypes Try.prog ++ Try.f11.resultTypes.toList).any (Try.prog.wideKeysFrom ·))) = true := by kernel_rfl
theorem treeKeeps_k18 : (Rows.treeKeepsSpec.vars.all (Try.prog.varReadable ·)) = true := by kernel_rfl
theorem treeKeeps_k19 : (Try.f11.resultTypes.all (fun t => Try.prog.readableRec t && decide (t < Try.prog.types.size))) = true := by kernel_rfl
theorem treeKeeps_k20 : ((Rows.treeKeepsRow.ifacesOut == Try.f11.resultTypes.toList.any (Try.prog.ifacesRec ·))) = true := by kernel_rfl
theorem treeKeeps_k21 : ((Rows.treeKeepsRow.loopsOut == Try.f11.resultTypes.toList.any (Try.prog.loopsFrom ·))) = true := by kernel_rfl
theorem treeKeeps_k22 : ((Rows.treeKeepsRow.plainKeys == Try.prog.plainKeys)) = true := by kernel_rfl
theorem treeKeeps_k23 : (Rows.treeKeepsRow.shortTexts.isNone) = true := by kernel_rfl
theorem treeKeeps_k24 : (Try.prog.stopsHeard) = true := by kernel_rfl
theorem treeKeeps_k25 : (Try.prog.mayEnter) = true := mayEnter_of Try.prog (behindMainWord (wordsSigns initSigns)) (congrArg (fun l => behindMainWord (wordsSigns l)) initL) initStrip1 initStrip2 initLays initReflect initDoors
theorem treeKeeps_k26 : ((Rows.treeKeepsRow.lifted == Try.prog.liftsFinal)) = true := beq_of (liftsFinal_of Try.prog (behindMainWord (wordsSigns initSigns)) (congrArg (fun l => behindMainWord (wordsSigns l)) initL) initStrip1 initHead)
theorem treeKeeps_k27 : ((Try.prog.make == some Rows.treeKeepsRow.make)) = true := by rw [make_of Try.prog (behindMainWord (wordsSigns initSigns)) (congrArg (fun l => behindMainWord (wordsSigns l)) initL) initHead]; rfl
theorem treeKeeps_k28 : ((Rows.treeKeepsRow.kinds == [])) = true := by kernel_rfl
theorem treeKeeps_k29 : ((Rows.treeKeepsRow.pinned == Rows.treeKeepsRow.pinnedBy)) = true := by kernel_rfl
theorem treeKeeps_k30 : ((Rows.treeKeepsRow.veiled == (Try.f11.params.toList ++ Rows.treeKeepsSpec.plain.varTypes Try.prog ++ Try.f11.resultTypes.toList).any (Try.prog.veiledRec ·))) = true := by kernel_rfl
theorem treeKeeps_k31 : (Rows.treeKeepsRow.veiledFits Try.prog Try.f11.params.toList (Try.f11.params.toList ++ Rows.treeKeepsSpec.plain.varTypes Try.prog ++ Try.f11.resultTypes.toList)) = true := by kernel_rfl
theorem treeKeeps_dom : (Rows.treeKeepsRow.domain.isEmpty) = true := by kernel_rfl
theorem treeKeeps_join : joinedFacts Try.prog 11 Try.f11 Rows.treeKeepsSpec Rows.treeKeepsRow = true :=
  join_of treeKeeps_dom treeKeeps_k0 treeKeeps_k1 treeKeeps_k2 treeKeeps_k3 treeKeeps_k4 treeKeeps_k5 treeKeeps_k6 treeKeeps_k7 treeKeeps_k8 treeKeeps_k9 treeKeeps_k10 treeKeeps_k11 treeKeeps_k12 treeKeeps_k13 treeKeeps_k14 treeKeeps_k15 treeKeeps_k16 treeKeeps_k17 treeKeeps_k18 treeKeeps_k19 treeKeeps_k20 treeKeeps_k21 treeKeeps_k22 treeKeeps_k23 treeKeeps_k24 treeKeeps_k25 treeKeeps_k26 treeKeeps_k27 treeKeeps_k28 treeKeeps_k29 treeKeeps_k30 treeKeeps_k31
theorem treeKeeps_reads : ∀ t ∈ Try.f11.params.toList, Try.prog.readableRec t = true ∧ t < Try.prog.types.size := by
  have h : (Try.f11.params.toList.all fun t => Try.prog.readableRec t && decide (t < Try.prog.types.size)) = true := by kernel_rfl
  intro t ht
  simpa using List.all_eq_true.1 h t ht
theorem treeKeeps_lifted (os : Os) (started : os.Started) (H : Type) (enc : TypeId × Value → H) :
    ReturnsInHanded {} Try.checked os 11 .any (Rows.treeKeepsSpec.pre6 enc Try.prog Try.f11 Rows.treeKeepsRow.domain false) (Rows.treeKeepsSpec.post enc Try.prog Try.f11 false true false false) := by
  refine returnsInHanded_w (C := Try.checked) ownNone started (by kernel_rfl) Try.func11
    (ChangeSpec.witness6 (enc := enc) (C := Try.checked) false ⟨#[], #[.slice none 0 0, .slice none 0 0], []⟩ 8 (by kernel_rfl) (by kernel_rfl) (by kernel_rfl) (by kernel_rfl)) ?_
  intro W base args ds gs before hval0 hW hwt
  have hval : ∀ (j : Nat) t v, Try.f11.params[j]? = some t → args[j]? = some v → Value.okWide Try.prog W .any base t v := hval0
  have hW' := hW
  obtain ⟨p, q, hA0, hV, rfl, hfz, hnd⟩ := hW
  have hA : DataW.TrodAll enc Try.prog W 0 (fun _ => true) true Try.f11.params.toList args.toList ds p := hA0
  have hA1 := hA
  rw [Try.params11] at hA hval
  obtain ⟨v0, vs0, d0, ds0, p0, q0, hargs, rfl, rfl, h0, r0⟩ := trodAll_cons hA
  obtain ⟨v1, vs1, d1, ds1, p1, q1, rfl, rfl, rfl, h1, r1⟩ := trodAll_cons r0
  obtain ⟨rfl, rfl, rfl⟩ := trodAll_nil r1
  obtain rfl : args = #[v0, v1] := by cases args; simp_all
  obtain ⟨rfl, rfl⟩ := trodVars_none hV
  clear hA0 hval0 hargs
  have w0 : WOk Try.prog 79 d0 := weightsEach_at hwt 0 _ _ (by kernel_rfl) rfl
  obtain ⟨fuel0, f0⟩ := h0
  obtain ⟨s0, xs0, hc0, hr0⟩ := acts_of_trod f0 w0
  obtain ⟨ad0, n0, c0, rfl⟩ := okWide_slice Try.underlying79 (hval 0 79 v0 rfl rfl)
  have e0 : Value.slice ad0 n0 c0 = .slice s0.a xs0.length s0.c := by simpa [Value.cells] using hc0
  rw [e0] at hA1 hW' ⊢
  have w1 : WOk Try.prog 62 d1 := weightsEach_at hwt 1 _ _ (by kernel_rfl) rfl
  obtain ⟨fuel1, f1⟩ := h1
  obtain ⟨s1, xs1, hc1, hr1⟩ := ints_of_trod f1 w1
  obtain ⟨ad1, n1, c1, rfl⟩ := okWide_slice Try.underlying62 (hval 1 62 v1 rfl rfl)
  have e1 : Value.slice ad1 n1 c1 = .slice s1.a xs1.length s1.c := by simpa [Value.cells] using hc1
  rw [e1] at hA1 hW' ⊢
  refine (treekeeps_w s0 xs0 s1 xs1 W hr0 hr1).mono fun e W' ⟨he, hg⟩ => ?_
  subst he
  have hB : Below W.heap.size W W' := hg.below
  have hlt := DataW.Whole.lt hW'
  exact ⟨_, rfl, post_of_below (pv := []) hW' (fun _ _ _ => (trodAll_cons_mk (shut_bool Try.underlying4 _) trodAll_mk0)) (fun sp hsp => trodAll_stays treeKeeps_k1 hB sp treeKeeps_reads hA1 (fun z hz => hlt z (by simpa using hz)) (fun z hz => hsp z (by simpa using hz))) (fun _ _ => rfl) rfl
    hB (ok_one (by kernel_rfl) rfl (okWide_bool_mk Try.underlying4 _))⟩
theorem treeKeeps_holds : Rows.treeKeepsRow.holds Try.pinned (OpenSpec.ofChange Rows.treeKeepsSpec) :=
  OpenClaim.holds_of_wide 11 Try.f11 rfl rfl rfl rfl rfl rfl rfl ⟨rfl, rfl, rfl, rfl, rfl⟩ rfl rfl rfl rfl rfl (by kernel_rfl) Try.func11 treeKeeps_join
    (of_decide_eq_true (by kernel_rfl)) (by unfold Func.isWrapper; first | (rw [if_pos (by decide +kernel)]; kernel_rfl) | (rw [if_neg (by decide +kernel)]; exact ⟨rfl, rfl⟩))
    (fun os started H enc _ => treeKeeps_lifted os started H enc)
theorem treeKeeps_said : Rows.TreeKeepsSaid := treeKeeps_holds
#print axioms treeKeeps_said
end Go.Proofs.Ytpapoalgocmlaaa
