/- The statement TreePlays: whatever the input, the law answers true, and the input reads as it did; no condition. -/
import Derived.Test.YtpapoalgocmlaaaFacts
import Derived.Test.YtpapoalgocmlaaaMf
import Derived.ShutString
namespace Go.Proofs.Ytpapoalgocmlaaa
open Go.ChangeShapes Go.WideShapes Go.ChangeAt Go.RowKit
set_option linter.unusedVariables false
set_option linter.unusedSimpArgs false
set_option maxRecDepth 100000
open Go.ChangeMaps (open_string shut_string)
theorem treePlays_k0 : (Rows.treePlaysRow.wf (OpenSpec.ofChange Rows.treePlaysSpec)) = true := by kernel_rfl
theorem treePlays_k1 : (laidOutB Try.prog) = true := by kernel_rfl
theorem treePlays_k2 : (mapsRowed Try.prog) = true := by kernel_rfl
theorem treePlays_k3 : (Try.f10.params.all (Try.prog.readableRec ·)) = true := by kernel_rfl
theorem treePlays_k4 : (namedTie Try.prog Rows.treePlaysRow.named Rows.treePlaysSpec.vars) = true := by kernel_rfl
theorem treePlays_k5 : ((Rows.treePlaysRow.stops == [])) = true := by kernel_rfl
theorem treePlays_k6 : ((Try.prog.stops == [])) = true := by kernel_rfl
theorem treePlays_k7 : ((Rows.treePlaysRow.knobs == [])) = true := by kernel_rfl
theorem treePlays_k8 : ((Try.prog.stopKnobs == [])) = true := by kernel_rfl
theorem treePlays_k9 : ((Rows.treePlaysRow.inPlace == Try.prog.inPlace 10)) = true := by kernel_rfl
theorem treePlays_k10 : ((Rows.treePlaysRow.unfollowed == Try.prog.unfollowed 10)) = true := by kernel_rfl
theorem treePlays_k11 : ((Rows.treePlaysRow.recurses == Try.prog.recurses 10)) = true := by kernel_rfl
theorem treePlays_k12 : ((Rows.treePlaysRow.named == Try.prog.varsNamed 10)) = true := by kernel_rfl
theorem treePlays_k13 : ((Rows.treePlaysRow.maps == (Try.f10.params.toList ++ Rows.treePlaysSpec.plain.varTypes Try.prog).any (Try.prog.mapsRec ·))) = true := by kernel_rfl
theorem treePlays_k14 : ((Rows.treePlaysRow.ifaces == (Try.f10.params.toList ++ Rows.treePlaysSpec.plain.varTypes Try.prog).any (Try.prog.ifacesRec ·))) = true := by kernel_rfl
theorem treePlays_k15 : ((Rows.treePlaysRow.mapsOut == Try.prog.mapsAmong Try.f10.resultTypes.toList)) = true := by kernel_rfl
theorem treePlays_k16 : ((Rows.treePlaysRow.loops == (Try.f10.params.toList ++ Rows.treePlaysSpec.plain.varTypes Try.prog).any (Try.prog.loopsFrom ·))) = true := by kernel_rfl
theorem treePlays_k17 : ((Rows.treePlaysRow.wideKeys == (Try.f10.params.toList ++ Rows.treePlaysSpec.plain.varTypes Try.prog ++ Try.f10.resultTypes.toList).any (Try.prog.wideKeysFrom ·))) = true := by kernel_rfl
theorem treePlays_k18 : (Rows.treePlaysSpec.vars.all (Try.prog.varReadable ·)) = true := by kernel_rfl
theorem treePlays_k19 : (Try.f10.resultTypes.all (fun t => Try.prog.readableRec t && decide (t < Try.prog.types.size))) = true := by kernel_rfl
theorem treePlays_k20 : ((Rows.treePlaysRow.ifacesOut == Try.f10.resultTypes.toList.any (Try.prog.ifacesRec ·))) = true := by kernel_rfl
theorem treePlays_k21 : ((Rows.treePlaysRow.loopsOut == Try.f10.resultTypes.toList.any (Try.prog.loopsFrom ·))) = true := by kernel_rfl
theorem treePlays_k22 : ((Rows.treePlaysRow.plainKeys == Try.prog.plainKeys)) = true := by kernel_rfl
theorem treePlays_k23 : (Rows.treePlaysRow.shortTexts.isNone) = true := by kernel_rfl
theorem treePlays_k24 : (Try.prog.stopsHeard) = true := by kernel_rfl
theorem treePlays_k25 : (Try.prog.mayEnter) = true := mayEnter_of Try.prog (behindMainWord (wordsSigns initSigns)) (congrArg (fun l => behindMainWord (wordsSigns l)) initL) initStrip1 initStrip2 initLays initReflect initDoors
theorem treePlays_k26 : ((Rows.treePlaysRow.lifted == Try.prog.liftsFinal)) = true := beq_of (liftsFinal_of Try.prog (behindMainWord (wordsSigns initSigns)) (congrArg (fun l => behindMainWord (wordsSigns l)) initL) initStrip1 initHead)
theorem treePlays_k27 : ((Try.prog.make == some Rows.treePlaysRow.make)) = true := by rw [make_of Try.prog (behindMainWord (wordsSigns initSigns)) (congrArg (fun l => behindMainWord (wordsSigns l)) initL) initHead]; rfl
theorem treePlays_k28 : ((Rows.treePlaysRow.kinds == [])) = true := by kernel_rfl
theorem treePlays_k29 : ((Rows.treePlaysRow.pinned == Rows.treePlaysRow.pinnedBy)) = true := by kernel_rfl
theorem treePlays_k30 : ((Rows.treePlaysRow.veiled == (Try.f10.params.toList ++ Rows.treePlaysSpec.plain.varTypes Try.prog ++ Try.f10.resultTypes.toList).any (Try.prog.veiledRec ·))) = true := by kernel_rfl
theorem treePlays_k31 : (Rows.treePlaysRow.veiledFits Try.prog Try.f10.params.toList (Try.f10.params.toList ++ Rows.treePlaysSpec.plain.varTypes Try.prog ++ Try.f10.resultTypes.toList)) = true := by kernel_rfl
theorem treePlays_dom : (Rows.treePlaysRow.domain.isEmpty) = true := by kernel_rfl
theorem treePlays_join : joinedFacts Try.prog 10 Try.f10 Rows.treePlaysSpec Rows.treePlaysRow = true :=
  join_of treePlays_dom treePlays_k0 treePlays_k1 treePlays_k2 treePlays_k3 treePlays_k4 treePlays_k5 treePlays_k6 treePlays_k7 treePlays_k8 treePlays_k9 treePlays_k10 treePlays_k11 treePlays_k12 treePlays_k13 treePlays_k14 treePlays_k15 treePlays_k16 treePlays_k17 treePlays_k18 treePlays_k19 treePlays_k20 treePlays_k21 treePlays_k22 treePlays_k23 treePlays_k24 treePlays_k25 treePlays_k26 treePlays_k27 treePlays_k28 treePlays_k29 treePlays_k30 treePlays_k31
theorem treePlays_reads : ∀ t ∈ Try.f10.params.toList, Try.prog.readableRec t = true ∧ t < Try.prog.types.size := by
  have h : (Try.f10.params.toList.all fun t => Try.prog.readableRec t && decide (t < Try.prog.types.size)) = true := by kernel_rfl
  intro t ht
  simpa using List.all_eq_true.1 h t ht
theorem treePlays_lifted (os : Os) (started : os.Started) (H : Type) (enc : TypeId × Value → H) :
    ReturnsInHanded {} Try.checked os 10 .any (Rows.treePlaysSpec.pre6 enc Try.prog Try.f10 Rows.treePlaysRow.domain false) (Rows.treePlaysSpec.post enc Try.prog Try.f10 false true false false) := by
  refine returnsInHanded_w (C := Try.checked) ownNone started (by kernel_rfl) Try.func10
    (ChangeSpec.witness6 (enc := enc) (C := Try.checked) false ⟨#[], #[.slice none 0 0], []⟩ 8 (by kernel_rfl) (by kernel_rfl) (by kernel_rfl) (by kernel_rfl)) ?_
  intro W base args ds gs before hval0 hW hwt
  have hval : ∀ (j : Nat) t v, Try.f10.params[j]? = some t → args[j]? = some v → Value.okWide Try.prog W .any base t v := hval0
  have hW' := hW
  obtain ⟨p, q, hA0, hV, rfl, hfz, hnd⟩ := hW
  have hA : DataW.TrodAll enc Try.prog W 0 (fun _ => true) true Try.f10.params.toList args.toList ds p := hA0
  have hA1 := hA
  rw [Try.params10] at hA hval
  obtain ⟨v0, vs0, d0, ds0, p0, q0, hargs, rfl, rfl, h0, r0⟩ := trodAll_cons hA
  obtain ⟨rfl, rfl, rfl⟩ := trodAll_nil r0
  obtain rfl : args = #[v0] := by cases args; simp_all
  obtain ⟨rfl, rfl⟩ := trodVars_none hV
  clear hA0 hval0 hargs
  have w0 : WOk Try.prog 79 d0 := weightsEach_at hwt 0 _ _ (by kernel_rfl) rfl
  obtain ⟨fuel0, f0⟩ := h0
  obtain ⟨s0, xs0, hc0, hr0⟩ := acts_of_trod f0 w0
  obtain ⟨ad0, n0, c0, rfl⟩ := okWide_slice Try.underlying79 (hval 0 79 v0 rfl rfl)
  have e0 : Value.slice ad0 n0 c0 = .slice s0.a xs0.length s0.c := by simpa [Value.cells] using hc0
  rw [e0] at hA1 hW' ⊢
  refine (treeplays_w s0 xs0 W hr0).mono fun e W' ⟨he, hg⟩ => ?_
  subst he
  have hB : Below W.heap.size W W' := hg.below
  have hlt := DataW.Whole.lt hW'
  exact ⟨_, rfl, post_of_below (pv := []) hW' (fun _ _ _ => (trodAll_cons_mk (shut_bool Try.underlying4 _) trodAll_mk0)) (fun sp hsp => trodAll_stays treePlays_k1 hB sp treePlays_reads hA1 (fun z hz => hlt z (by simpa using hz)) (fun z hz => hsp z (by simpa using hz))) (fun _ _ => rfl) rfl
    hB (ok_one (by kernel_rfl) rfl (okWide_bool_mk Try.underlying4 _))⟩
theorem treePlays_holds : Rows.treePlaysRow.holds Try.pinned (OpenSpec.ofChange Rows.treePlaysSpec) :=
  OpenClaim.holds_of_wide 10 Try.f10 rfl rfl rfl rfl rfl rfl rfl ⟨rfl, rfl, rfl, rfl, rfl⟩ rfl rfl rfl rfl rfl (by kernel_rfl) Try.func10 treePlays_join
    (of_decide_eq_true (by kernel_rfl)) (by unfold Func.isWrapper; first | (rw [if_pos (by decide +kernel)]; kernel_rfl) | (rw [if_neg (by decide +kernel)]; exact ⟨rfl, rfl⟩))
    (fun os started H enc _ => treePlays_lifted os started H enc)
theorem treePlays_said : Rows.TreePlaysSaid := treePlays_holds
#print axioms treePlays_said
end Go.Proofs.Ytpapoalgocmlaaa
