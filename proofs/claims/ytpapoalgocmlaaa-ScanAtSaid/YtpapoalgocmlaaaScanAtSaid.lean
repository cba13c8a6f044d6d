/- The statement ScanAt: whatever the input, the law answers true, and the input reads as it did; no condition. -/
import Derived.Test.YtpapoalgocmlaaaFacts
import Derived.Test.YtpapoalgocmlaaaMf
import Derived.Test.YtpapoalgocmlaaaScanAt
import Derived.ShutString
namespace Go.Proofs.Ytpapoalgocmlaaa
open Go.ChangeShapes Go.WideShapes Go.ChangeAt Go.RowKit
set_option linter.unusedVariables false
set_option linter.unusedSimpArgs false
set_option maxRecDepth 100000
open Go.ChangeMaps (open_string shut_string)
theorem scanAt_k0 : (Rows.scanAtRow.wf (OpenSpec.ofChange Rows.scanAtSpec)) = true := by kernel_rfl
theorem scanAt_k1 : (laidOutB Try.prog) = true := by kernel_rfl
theorem scanAt_k2 : (mapsRowed Try.prog) = true := by kernel_rfl
theorem scanAt_k3 : (Try.f15.params.all (Try.prog.readableRec ·)) = true := by kernel_rfl
theorem scanAt_k4 : (namedTie Try.prog Rows.scanAtRow.named Rows.scanAtSpec.vars) = true := by kernel_rfl
theorem scanAt_k5 : ((Rows.scanAtRow.stops == [])) = true := by kernel_rfl
theorem scanAt_k6 : ((Try.prog.stops == [])) = true := by kernel_rfl
theorem scanAt_k7 : ((Rows.scanAtRow.knobs == [])) = true := by kernel_rfl
theorem scanAt_k8 : ((Try.prog.stopKnobs == [])) = true := by kernel_rfl
theorem scanAt_k9 : ((Rows.scanAtRow.inPlace == Try.prog.inPlace 15)) = true := by kernel_rfl
theorem scanAt_k10 : ((Rows.scanAtRow.unfollowed == Try.prog.unfollowed 15)) = true := by kernel_rfl
theorem scanAt_k11 : ((Rows.scanAtRow.recurses == Try.prog.recurses 15)) = true := by kernel_rfl
theorem scanAt_k12 : ((Rows.scanAtRow.named == Try.prog.varsNamed 15)) = true := by kernel_rfl
theorem scanAt_k13 : ((Rows.scanAtRow.maps == (Try.f15.params.toList ++ Rows.scanAtSpec.plain.varTypes Try.prog).any (Try.prog.mapsRec ·))) = true := by kernel_rfl
theorem scanAt_k14 : ((Rows.scanAtRow.ifaces == (Try.f15.params.toList ++ Rows.scanAtSpec.plain.varTypes Try.prog).any (Try.prog.ifacesRec ·))) = true := by kernel_rfl
theorem scanAt_k15 : ((Rows.scanAtRow.mapsOut == Try.prog.mapsAmong Try.f15.resultTypes.toList)) = true := by kernel_rfl
theorem scanAt_k16 : ((Rows.scanAtRow.loops == (Try.f15.params.toList ++ Rows.scanAtSpec.plain.varTypes Try.prog).any (Try.prog.loopsFrom ·))) = true := by kernel_rfl
theorem scanAt_k17 : ((Rows.scanAtRow.wideKeys == (Try.f15.params.toList ++ Rows.scanAtSpec.plain.varTypes Try.prog ++ Try.f15.resultTypes.toList).any (Try.prog.wideKeysFrom ·))) = true := by kernel_rfl
theorem scanAt_k18 : (Rows.scanAtSpec.vars.all (Try.prog.varReadable ·)) = true := by kernel_rfl
theorem scanAt_k19 : (Try.f15.resultTypes.all (fun t => Try.prog.readableRec t && decide (t < Try.prog.types.size))) = true := by kernel_rfl
theorem scanAt_k20 : ((Rows.scanAtRow.ifacesOut == Try.f15.resultTypes.toList.any (Try.prog.ifacesRec ·))) = true := by kernel_rfl
theorem scanAt_k21 : ((Rows.scanAtRow.loopsOut == Try.f15.resultTypes.toList.any (Try.prog.loopsFrom ·))) = true := by kernel_rfl
theorem scanAt_k22 : ((Rows.scanAtRow.plainKeys == Try.prog.plainKeys)) = true := by kernel_rfl
theorem scanAt_k23 : (Rows.scanAtRow.shortTexts.isNone) = true := by kernel_rfl
theorem scanAt_k24 : (Try.prog.stopsHeard) = true := by kernel_rfl
theorem scanAt_k25 : (Try.prog.mayEnter) = true := mayEnter_of Try.prog (behindMainWord (wordsSigns initSigns)) (congrArg (fun l => behindMainWord (wordsSigns l)) initL) initStrip1 initStrip2 initLays initReflect initDoors
theorem scanAt_k26 : ((Rows.scanAtRow.lifted == Try.prog.liftsFinal)) = true := beq_of (liftsFinal_of Try.prog (behindMainWord (wordsSigns initSigns)) (congrArg (fun l => behindMainWord (wordsSigns l)) initL) initStrip1 initHead)
theorem scanAt_k27 : ((Try.prog.make == some Rows.scanAtRow.make)) = true := by rw [make_of Try.prog (behindMainWord (wordsSigns initSigns)) (congrArg (fun l => behindMainWord (wordsSigns l)) initL) initHead]; rfl
theorem scanAt_k28 : ((Rows.scanAtRow.kinds == [])) = true := by kernel_rfl
theorem scanAt_k29 : ((Rows.scanAtRow.pinned == Rows.scanAtRow.pinnedBy)) = true := by kernel_rfl
theorem scanAt_k30 : ((Rows.scanAtRow.veiled == (Try.f15.params.toList ++ Rows.scanAtSpec.plain.varTypes Try.prog ++ Try.f15.resultTypes.toList).any (Try.prog.veiledRec ·))) = true := by kernel_rfl
theorem scanAt_k31 : (Rows.scanAtRow.veiledFits Try.prog Try.f15.params.toList (Try.f15.params.toList ++ Rows.scanAtSpec.plain.varTypes Try.prog ++ Try.f15.resultTypes.toList)) = true := by kernel_rfl
theorem scanAt_dom : (Rows.scanAtRow.domain.isEmpty) = true := by kernel_rfl
theorem scanAt_join : joinedFacts Try.prog 15 Try.f15 Rows.scanAtSpec Rows.scanAtRow = true :=
  join_of scanAt_dom scanAt_k0 scanAt_k1 scanAt_k2 scanAt_k3 scanAt_k4 scanAt_k5 scanAt_k6 scanAt_k7 scanAt_k8 scanAt_k9 scanAt_k10 scanAt_k11 scanAt_k12 scanAt_k13 scanAt_k14 scanAt_k15 scanAt_k16 scanAt_k17 scanAt_k18 scanAt_k19 scanAt_k20 scanAt_k21 scanAt_k22 scanAt_k23 scanAt_k24 scanAt_k25 scanAt_k26 scanAt_k27 scanAt_k28 scanAt_k29 scanAt_k30 scanAt_k31
theorem scanAt_reads : ∀ t ∈ Try.f15.params.toList, Try.prog.readableRec t = true ∧ t < Try.prog.types.size := by
  have h : (Try.f15.params.toList.all fun t => Try.prog.readableRec t && decide (t < Try.prog.types.size)) = true := by kernel_rfl
  intro t ht
  simpa using List.all_eq_true.1 h t ht
theorem scanAt_lifted (os : Os) (started : os.Started) (H : Type) (enc : TypeId × Value → H) :
    ReturnsInHanded {} Try.checked os 15 .any (Rows.scanAtSpec.pre6 enc Try.prog Try.f15 Rows.scanAtRow.domain false) (Rows.scanAtSpec.post enc Try.prog Try.f15 false true false false) := by
  refine returnsInHanded_w (C := Try.checked) ownNone started (by kernel_rfl) Try.func15
    (ChangeSpec.witness6 (enc := enc) (C := Try.checked) false ⟨#[], #[.slice none 0 0, .int .i64 0], []⟩ 8 (by kernel_rfl) (by kernel_rfl) (by kernel_rfl) (by kernel_rfl)) ?_
  intro W base args ds gs before hval0 hW hwt
  have hval : ∀ (j : Nat) t v, Try.f15.params[j]? = some t → args[j]? = some v → Value.okWide Try.prog W .any base t v := hval0
  have hW' := hW
  obtain ⟨p, q, hA0, hV, rfl, hfz, hnd⟩ := hW
  have hA : DataW.TrodAll enc Try.prog W 0 (fun _ => true) true Try.f15.params.toList args.toList ds p := hA0
  have hA1 := hA
  rw [Try.params15] at hA hval
  obtain ⟨v0, vs0, d0, ds0, p0, q0, hargs, rfl, rfl, h0, r0⟩ := trodAll_cons hA
  obtain ⟨v1, vs1, d1, ds1, p1, q1, rfl, rfl, rfl, h1, r1⟩ := trodAll_cons r0
  obtain ⟨rfl, rfl, rfl⟩ := trodAll_nil r1
  obtain rfl : args = #[v0, v1] := by cases args; simp_all
  obtain ⟨rfl, rfl⟩ := trodVars_none hV
  clear hA0 hval0 hargs
  have w0 : WOk Try.prog 53 d0 := weightsEach_at hwt 0 _ _ (by kernel_rfl) rfl
  obtain ⟨fuel0, f0⟩ := h0
  obtain ⟨s0, xs0, hc0, hr0⟩ := es_of_trod f0 w0
  obtain ⟨ad0, n0, c0, rfl⟩ := okWide_slice Try.underlying53 (hval 0 53 v0 rfl rfl)
  have e0 : Value.slice ad0 n0 c0 = .slice s0.a xs0.length s0.c := by simpa [Value.cells] using hc0
  rw [e0] at hA1 hW' ⊢
  obtain ⟨a1, rfl, rfl, rfl, hr1⟩ := open_int Try.underlying3 (hval 1 3 v1 rfl rfl) h1
  refine (scanat_w s0 xs0 a1 W hr0 hr1).mono fun e W' ⟨he, hg⟩ => ?_
  subst he
  have hB : Below W.heap.size W W' := hg
  have hlt := DataW.Whole.lt hW'
  exact ⟨_, rfl, post_of_below (pv := []) hW' (fun _ _ _ => (trodAll_cons_mk (shut_bool Try.underlying4 _) trodAll_mk0)) (fun sp hsp => trodAll_stays scanAt_k1 hB sp scanAt_reads hA1 (fun z hz => hlt z (by simpa using hz)) (fun z hz => hsp z (by simpa using hz))) (fun _ _ => rfl) rfl
    hB (ok_one (by kernel_rfl) rfl (okWide_bool_mk Try.underlying4 _))⟩
theorem scanAt_holds : Rows.scanAtRow.holds Try.pinned (OpenSpec.ofChange Rows.scanAtSpec) :=
  OpenClaim.holds_of_wide 15 Try.f15 rfl rfl rfl rfl rfl rfl rfl ⟨rfl, rfl, rfl, rfl, rfl⟩ rfl rfl rfl rfl rfl (by kernel_rfl) Try.func15 scanAt_join
    (of_decide_eq_true (by kernel_rfl)) (by unfold Func.isWrapper; first | (rw [if_pos (by decide +kernel)]; kernel_rfl) | (rw [if_neg (by decide +kernel)]; exact ⟨rfl, rfl⟩))
    (fun os started H enc _ => scanAt_lifted os started H enc)
theorem scanAt_said : Rows.ScanAtSaid := scanAt_holds
#print axioms scanAt_said
end Go.Proofs.Ytpapoalgocmlaaa
