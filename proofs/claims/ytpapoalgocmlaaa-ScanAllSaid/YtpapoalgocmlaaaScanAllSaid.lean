/- The statement ScanAll: whatever the input, the law answers true, and the input reads as it did; no condition. -/
import Derived.Test.YtpapoalgocmlaaaFacts
import Derived.Test.YtpapoalgocmlaaaMf
import Derived.Test.YtpapoalgocmlaaaScanAll
import Derived.ShutString
namespace Go.Proofs.Ytpapoalgocmlaaa
open Go.ChangeShapes Go.WideShapes Go.ChangeAt Go.RowKit
set_option linter.unusedVariables false
set_option linter.unusedSimpArgs false
set_option maxRecDepth 100000
open Go.ChangeMaps (open_string shut_string)
theorem scanAll_k0 : (Rows.scanAllRow.wf (OpenSpec.ofChange Rows.scanAllSpec)) = true := by kernel_rfl
theorem scanAll_k1 : (laidOutB Try.prog) = true := by kernel_rfl
theorem scanAll_k2 : (mapsRowed Try.prog) = true := by kernel_rfl
theorem scanAll_k3 : (Try.f19.params.all (Try.prog.readableRec ·)) = true := by kernel_rfl
theorem scanAll_k4 : (namedTie Try.prog Rows.scanAllRow.named Rows.scanAllSpec.vars) = true := by kernel_rfl
theorem scanAll_k5 : ((Rows.scanAllRow.stops == [])) = true := by kernel_rfl
theorem scanAll_k6 : ((Try.prog.stops == [])) = true := by kernel_rfl
theorem scanAll_k7 : ((Rows.scanAllRow.knobs == [])) = true := by kernel_rfl
theorem scanAll_k8 : ((Try.prog.stopKnobs == [])) = true := by kernel_rfl
theorem scanAll_k9 : ((Rows.scanAllRow.inPlace == Try.prog.inPlace 19)) = true := by kernel_rfl
theorem scanAll_k10 : ((Rows.scanAllRow.unfollowed == Try.prog.unfollowed 19)) = true := by kernel_rfl
theorem scanAll_k11 : ((Rows.scanAllRow.recurses == Try.prog.recurses 19)) = true := by kernel_rfl
theorem scanAll_k12 : ((Rows.scanAllRow.named == Try.prog.varsNamed 19)) = true := by kernel_rfl
theorem scanAll_k13 : ((Rows.scanAllRow.maps == (Try.f19.params.toList ++ Rows.scanAllSpec.plain.varTypes Try.prog).any (Try.prog.mapsRec ·))) = true := by kernel_rfl
theorem scanAll_k14 : ((Rows.scanAllRow.ifaces == (Try.f19.params.toList ++ Rows.scanAllSpec.plain.varTypes Try.prog).any (Try.prog.ifacesRec ·))) = true := by kernel_rfl
theorem scanAll_k15 : ((Rows.scanAllRow.mapsOut == Try.prog.mapsAmong Try.f19.resultTypes.toList)) = true := by kernel_rfl
theorem scanAll_k16 : ((Rows.scanAllRow.loops == (Try.f19.params.toList ++ Rows.scanAllSpec.plain.varTypes Try.prog).any (Try.prog.loopsFrom ·))) = true := by kernel_rfl
theorem scanAll_k17 : ((Rows.scanAllRow.wideKeys == (Try.f19.params.toList ++ Rows.scanAllSpec.plain.varTypes Try.prog ++ Try.f19.resultTypes.toList).any (Try.prog.wideKeysFrom ·))) = true := by kernel_rfl
theorem scanAll_k18 : (Rows.scanAllSpec.vars.all (Try.prog.varReadable ·)) = true := by kernel_rfl
theorem scanAll_k19 : (Try.f19.resultTypes.all (fun t => Try.prog.readableRec t && decide (t < Try.prog.types.size))) = true := by kernel_rfl
theorem scanAll_k20 : ((Rows.scanAllRow.ifacesOut == Try.f19.resultTypes.toList.any (Try.prog.ifacesRec ·))) = true := by kernel_rfl
theorem scanAll_k21 : ((Rows.scanAllRow.loopsOut == Try.f19.resultTypes.toList.any (Try.prog.loopsFrom ·))) = true := by kernel_rfl
theorem scanAll_k22 : ((Rows.scanAllRow.plainKeys == Try.prog.plainKeys)) = true := by kernel_rfl
theorem scanAll_k23 : (Rows.scanAllRow.shortTexts.isNone) = true := by kernel_rfl
theorem scanAll_k24 : (Try.prog.stopsHeard) = true := by kernel_rfl
theorem scanAll_k25 : (Try.prog.mayEnter) = true := mayEnter_of Try.prog (behindMainWord (wordsSigns initSigns)) (congrArg (fun l => behindMainWord (wordsSigns l)) initL) initStrip1 initStrip2 initLays initReflect initDoors
theorem scanAll_k26 : ((Rows.scanAllRow.lifted == Try.prog.liftsFinal)) = true := beq_of (liftsFinal_of Try.prog (behindMainWord (wordsSigns initSigns)) (congrArg (fun l => behindMainWord (wordsSigns l)) initL) initStrip1 initHead)
theorem scanAll_k27 : ((Try.prog.make == some Rows.scanAllRow.make)) = true := by rw [make_of Try.prog (behindMainWord (wordsSigns initSigns)) (congrArg (fun l => behindMainWord (wordsSigns l)) initL) initHead]; rfl
theorem scanAll_k28 : ((Rows.scanAllRow.kinds == [])) = true := by kernel_rfl
theorem scanAll_k29 : ((Rows.scanAllRow.pinned == Rows.scanAllRow.pinnedBy)) = true := by kernel_rfl
theorem scanAll_k30 : ((Rows.scanAllRow.veiled == (Try.f19.params.toList ++ Rows.scanAllSpec.plain.varTypes Try.prog ++ Try.f19.resultTypes.toList).any (Try.prog.veiledRec ·))) = true := by kernel_rfl
theorem scanAll_k31 : (Rows.scanAllRow.veiledFits Try.prog Try.f19.params.toList (Try.f19.params.toList ++ Rows.scanAllSpec.plain.varTypes Try.prog ++ Try.f19.resultTypes.toList)) = true := by kernel_rfl
theorem scanAll_dom : (Rows.scanAllRow.domain.isEmpty) = true := by kernel_rfl
theorem scanAll_join : joinedFacts Try.prog 19 Try.f19 Rows.scanAllSpec Rows.scanAllRow = true :=
  join_of scanAll_dom scanAll_k0 scanAll_k1 scanAll_k2 scanAll_k3 scanAll_k4 scanAll_k5 scanAll_k6 scanAll_k7 scanAll_k8 scanAll_k9 scanAll_k10 scanAll_k11 scanAll_k12 scanAll_k13 scanAll_k14 scanAll_k15 scanAll_k16 scanAll_k17 scanAll_k18 scanAll_k19 scanAll_k20 scanAll_k21 scanAll_k22 scanAll_k23 scanAll_k24 scanAll_k25 scanAll_k26 scanAll_k27 scanAll_k28 scanAll_k29 scanAll_k30 scanAll_k31
theorem scanAll_reads : ∀ t ∈ Try.f19.params.toList, Try.prog.readableRec t = true ∧ t < Try.prog.types.size := by
  have h : (Try.f19.params.toList.all fun t => Try.prog.readableRec t && decide (t < Try.prog.types.size)) = true := by kernel_rfl
  intro t ht
  simpa using List.all_eq_true.1 h t ht
theorem scanAll_lifted (os : Os) (started : os.Started) (H : Type) (enc : TypeId × Value → H) :
    ReturnsInHanded {} Try.checked os 19 .any (Rows.scanAllSpec.pre6 enc Try.prog Try.f19 Rows.scanAllRow.domain false) (Rows.scanAllSpec.post enc Try.prog Try.f19 false true false false) := by
  refine returnsInHanded_w (C := Try.checked) ownNone started (by kernel_rfl) Try.func19
    (ChangeSpec.witness6 (enc := enc) (C := Try.checked) false ⟨#[], #[.slice none 0 0], []⟩ 8 (by kernel_rfl) (by kernel_rfl) (by kernel_rfl) (by kernel_rfl)) ?_
  intro W base args ds gs before hval0 hW hwt
  have hval : ∀ (j : Nat) t v, Try.f19.params[j]? = some t → args[j]? = some v → Value.okWide Try.prog W .any base t v := hval0
  have hW' := hW
  obtain ⟨p, q, hA0, hV, rfl, hfz, hnd⟩ := hW
  have hA : DataW.TrodAll enc Try.prog W 0 (fun _ => true) true Try.f19.params.toList args.toList ds p := hA0
  have hA1 := hA
  rw [Try.params19] at hA hval
  obtain ⟨v0, vs0, d0, ds0, p0, q0, hargs, rfl, rfl, h0, r0⟩ := trodAll_cons hA
  obtain ⟨rfl, rfl, rfl⟩ := trodAll_nil r0
  obtain rfl : args = #[v0] := by cases args; simp_all
  obtain ⟨rfl, rfl⟩ := trodVars_none hV
  clear hA0 hval0 hargs
  have w0 : WOk Try.prog 53 d0 := weightsEach_at hwt 0 _ _ (by kernel_rfl) rfl
  obtain ⟨fuel0, f0⟩ := h0
  obtain ⟨s0, xs0, hc0, hr0⟩ := es_of_trod f0 w0
  obtain ⟨ad0, n0, c0, rfl⟩ := okWide_slice Try.underlying53 (hval 0 53 v0 rfl rfl)
  have e0 : Value.slice ad0 n0 c0 = .slice s0.a xs0.length s0.c := by simpa [Value.cells] using hc0
  rw [e0] at hA1 hW' ⊢
  refine (scanall_w s0 xs0 W hr0).mono fun e W' ⟨he, hg⟩ => ?_
  subst he
  have hB : Below W.heap.size W W' := hg
  have hlt := DataW.Whole.lt hW'
  exact ⟨_, rfl, post_of_below (pv := []) hW' (fun _ _ _ => (trodAll_cons_mk (shut_bool Try.underlying4 _) trodAll_mk0)) (fun sp hsp => trodAll_stays scanAll_k1 hB sp scanAll_reads hA1 (fun z hz => hlt z (by simpa using hz)) (fun z hz => hsp z (by simpa using hz))) (fun _ _ => rfl) rfl
    hB (ok_one (by kernel_rfl) rfl (okWide_bool_mk Try.underlying4 _))⟩
theorem scanAll_holds : Rows.scanAllRow.holds Try.pinned (OpenSpec.ofChange Rows.scanAllSpec) :=
  OpenClaim.holds_of_wide 19 Try.f19 rfl rfl rfl rfl rfl rfl rfl ⟨rfl, rfl, rfl, rfl, rfl⟩ rfl rfl rfl rfl rfl (by kernel_rfl) Try.func19 scanAll_join
    (of_decide_eq_true (by kernel_rfl)) (by unfold Func.isWrapper; first | (rw [if_pos (by decide +kernel)]; kernel_rfl) | (rw [if_neg (by decide +kernel)]; exact ⟨rfl, rfl⟩))
    (fun os started H enc _ => scanAll_lifted os started H enc)
theorem scanAll_said : Rows.ScanAllSaid := scanAll_holds
#print axioms scanAll_said
end Go.Proofs.Ytpapoalgocmlaaa
