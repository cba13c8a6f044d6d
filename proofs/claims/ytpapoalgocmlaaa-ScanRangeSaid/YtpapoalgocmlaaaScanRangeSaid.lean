/- The statement ScanRange: whatever the input, the law answers true, and the input reads as it did; no condition. -/
import Derived.Test.YtpapoalgocmlaaaFacts
import Derived.Test.YtpapoalgocmlaaaMf
import Derived.Test.YtpapoalgocmlaaaScanRange
import Derived.ShutString
namespace Go.Proofs.Ytpapoalgocmlaaa
open Go.ChangeShapes Go.WideShapes Go.ChangeAt Go.RowKit
set_option linter.unusedVariables false
set_option linter.unusedSimpArgs false
set_option maxRecDepth 100000
open Go.ChangeMaps (open_string shut_string)
theorem scanRange_k0 : (Rows.scanRangeRow.wf (OpenSpec.ofChange Rows.scanRangeSpec)) = true := by kernel_rfl
theorem scanRange_k1 : (laidOutB Try.prog) = true := by kernel_rfl
theorem scanRange_k2 : (mapsRowed Try.prog) = true := by kernel_rfl
theorem scanRange_k3 : (Try.f12.params.all (Try.prog.readableRec ·)) = true := by kernel_rfl
theorem scanRange_k4 : (namedTie Try.prog Rows.scanRangeRow.named Rows.scanRangeSpec.vars) = true := by kernel_rfl
theorem scanRange_k5 : ((Rows.scanRangeRow.stops == [])) = true := by kernel_rfl
theorem scanRange_k6 : ((Try.prog.stops == [])) = true := by kernel_rfl
theorem scanRange_k7 : ((Rows.scanRangeRow.knobs == [])) = true := by kernel_rfl
theorem scanRange_k8 : ((Try.prog.stopKnobs == [])) = true := by kernel_rfl
theorem scanRange_k9 : ((Rows.scanRangeRow.inPlace == Try.prog.inPlace 12)) = true := by kernel_rfl
theorem scanRange_k10 : ((Rows.scanRangeRow.unfollowed == Try.prog.unfollowed 12)) = true := by kernel_rfl
theorem scanRange_k11 : ((Rows.scanRangeRow.recurses == Try.prog.recurses 12)) = true := by kernel_rfl
theorem scanRange_k12 : ((Rows.scanRangeRow.named == Try.prog.varsNamed 12)) = true := by kernel_rfl
theorem scanRange_k13 : ((Rows.scanRangeRow.maps == (Try.f12.params.toList ++ Rows.scanRangeSpec.plain.varTypes Try.prog).any (Try.prog.mapsRec ·))) = true := by kernel_rfl
theorem scanRange_k14 : ((Rows.scanRangeRow.ifaces == (Try.f12.params.toList ++ Rows.scanRangeSpec.plain.varTypes Try.prog).any (Try.prog.ifacesRec ·))) = true := by kernel_rfl
theorem scanRange_k15 : ((Rows.scanRangeRow.mapsOut == Try.prog.mapsAmong Try.f12.resultTypes.toList)) = true := by kernel_rfl
theorem scanRange_k16 : ((Rows.scanRangeRow.loops == (Try.f12.params.toList ++ Rows.scanRangeSpec.plain.varTypes Try.prog).any (Try.prog.loopsFrom ·))) = true := by kernel_rfl
theorem scanRange_k17 : ((Rows.scanRangeRow.wideKeys == (Try.f12.params.toList ++ Rows.scanRangeSpec.plain.varTypes Try.prog ++ Try.f12.resultTypes.toList).any (Try.prog.wideKeysFrom ·))) = true := by kernel_rfl
theorem scanRange_k18 : (Rows.scanRangeSpec.vars.all (Try.prog.varReadable ·)) = true := by kernel_rfl
theorem scanRange_k19 : (Try.f12.resultTypes.all (fun t => Try.prog.readableRec t && decide (t < Try.prog.types.size))) = true := by kernel_rfl
theorem scanRange_k20 : ((Rows.scanRangeRow.ifacesOut == Try.f12.resultTypes.toList.any (Try.prog.ifacesRec ·))) = true := by kernel_rfl
theorem scanRange_k21 : ((Rows.scanRangeRow.loopsOut == Try.f12.resultTypes.toList.any (Try.prog.loopsFrom ·))) = true := by kernel_rfl
theorem scanRange_k22 : ((Rows.scanRangeRow.plainKeys == Try.prog.plainKeys)) = true := by kernel_rfl
theorem scanRange_k23 : (Rows.scanRangeRow.shortTexts.isNone) = true := by kernel_rfl
theorem scanRange_k24 : (Try.prog.stopsHeard) = true := by kernel_rfl
theorem scanRange_k25 : (Try.prog.mayEnter) = true := mayEnter_of Try.prog (behindMainWord (wordsSigns initSigns)) (congrArg (fun l => behindMainWord (wordsSigns l)) initL) initStrip1 initStrip2 initLays initReflect initDoors
theorem scanRange_k26 : ((Rows.scanRangeRow.lifted == Try.prog.liftsFinal)) = true := beq_of (liftsFinal_of Try.prog (behindMainWord (wordsSigns initSigns)) (congrArg (fun l => behindMainWord (wordsSigns l)) initL) initStrip1 initHead)
theorem scanRange_k27 : ((Try.prog.make == some Rows.scanRangeRow.make)) = true := by rw [make_of Try.prog (behindMainWord (wordsSigns initSigns)) (congrArg (fun l => behindMainWord (wordsSigns l)) initL) initHead]; rfl
theorem scanRange_k28 : ((Rows.scanRangeRow.kinds == [])) = true := by kernel_rfl
theorem scanRange_k29 : ((Rows.scanRangeRow.pinned == Rows.scanRangeRow.pinnedBy)) = true := by kernel_rfl
theorem scanRange_k30 : ((Rows.scanRangeRow.veiled == (Try.f12.params.toList ++ Rows.scanRangeSpec.plain.varTypes Try.prog ++ Try.f12.resultTypes.toList).any (Try.prog.veiledRec ·))) = true := by kernel_rfl
theorem scanRange_k31 : (Rows.scanRangeRow.veiledFits Try.prog Try.f12.params.toList (Try.f12.params.toList ++ Rows.scanRangeSpec.plain.varTypes Try.prog ++ Try.f12.resultTypes.toList)) = true := by kernel_rfl
theorem scanRange_dom : (Rows.scanRangeRow.domain.isEmpty) = true := by kernel_rfl
theorem scanRange_join : joinedFacts Try.prog 12 Try.f12 Rows.scanRangeSpec Rows.scanRangeRow = true :=
  join_of scanRange_dom scanRange_k0 scanRange_k1 scanRange_k2 scanRange_k3 scanRange_k4 scanRange_k5 scanRange_k6 scanRange_k7 scanRange_k8 scanRange_k9 scanRange_k10 scanRange_k11 scanRange_k12 scanRange_k13 scanRange_k14 scanRange_k15 scanRange_k16 scanRange_k17 scanRange_k18 scanRange_k19 scanRange_k20 scanRange_k21 scanRange_k22 scanRange_k23 scanRange_k24 scanRange_k25 scanRange_k26 scanRange_k27 scanRange_k28 scanRange_k29 scanRange_k30 scanRange_k31
theorem scanRange_reads : ∀ t ∈ Try.f12.params.toList, Try.prog.readableRec t = true ∧ t < Try.prog.types.size := by
  have h : (Try.f12.params.toList.all fun t => Try.prog.readableRec t && decide (t < Try.prog.types.size)) = true := by kernel_rfl
  intro t ht
  simpa using List.all_eq_true.1 h t ht
theorem scanRange_lifted (os : Os) (started : os.Started) (H : Type) (enc : TypeId × Value → H) :
    ReturnsInHanded {} Try.checked os 12 .any (Rows.scanRangeSpec.pre6 enc Try.prog Try.f12 Rows.scanRangeRow.domain false) (Rows.scanRangeSpec.post enc Try.prog Try.f12 false true false false) := by
  refine returnsInHanded_w (C := Try.checked) ownNone started (by kernel_rfl) Try.func12
    (ChangeSpec.witness6 (enc := enc) (C := Try.checked) false ⟨#[], #[.slice none 0 0, .string ByteArray.empty, .string ByteArray.empty, .bool false, .int .i64 0], []⟩ 8 (by kernel_rfl) (by kernel_rfl) (by kernel_rfl) (by kernel_rfl)) ?_
  intro W base args ds gs before hval0 hW hwt
  have hval : ∀ (j : Nat) t v, Try.f12.params[j]? = some t → args[j]? = some v → Value.okWide Try.prog W .any base t v := hval0
  have hW' := hW
  obtain ⟨p, q, hA0, hV, rfl, hfz, hnd⟩ := hW
  have hA : DataW.TrodAll enc Try.prog W 0 (fun _ => true) true Try.f12.params.toList args.toList ds p := hA0
  have hA1 := hA
  rw [Try.params12] at hA hval
  obtain ⟨v0, vs0, d0, ds0, p0, q0, hargs, rfl, rfl, h0, r0⟩ := trodAll_cons hA
  obtain ⟨v1, vs1, d1, ds1, p1, q1, rfl, rfl, rfl, h1, r1⟩ := trodAll_cons r0
  obtain ⟨v2, vs2, d2, ds2, p2, q2, rfl, rfl, rfl, h2, r2⟩ := trodAll_cons r1
  obtain ⟨v3, vs3, d3, ds3, p3, q3, rfl, rfl, rfl, h3, r3⟩ := trodAll_cons r2
  obtain ⟨v4, vs4, d4, ds4, p4, q4, rfl, rfl, rfl, h4, r4⟩ := trodAll_cons r3
  obtain ⟨rfl, rfl, rfl⟩ := trodAll_nil r4
  obtain rfl : args = #[v0, v1, v2, v3, v4] := by cases args; simp_all
  obtain ⟨rfl, rfl⟩ := trodVars_none hV
  clear hA0 hval0 hargs
  have w0 : WOk Try.prog 53 d0 := weightsEach_at hwt 0 _ _ (by kernel_rfl) rfl
  obtain ⟨fuel0, f0⟩ := h0
  obtain ⟨s0, xs0, hc0, hr0⟩ := es_of_trod f0 w0
  obtain ⟨ad0, n0, c0, rfl⟩ := okWide_slice Try.underlying53 (hval 0 53 v0 rfl rfl)
  have e0 : Value.slice ad0 n0 c0 = .slice s0.a xs0.length s0.c := by simpa [Value.cells] using hc0
  rw [e0] at hA1 hW' ⊢
  obtain ⟨a1, rfl, rfl, rfl, hr1⟩ := open_string Try.underlying9 (hval 1 9 v1 rfl rfl) h1
  obtain ⟨a2, rfl, rfl, rfl, hr2⟩ := open_string Try.underlying9 (hval 2 9 v2 rfl rfl) h2
  obtain ⟨a3, rfl, rfl, rfl⟩ := open_bool Try.underlying4 (hval 3 4 v3 rfl rfl) h3
  obtain ⟨a4, rfl, rfl, rfl, hr4⟩ := open_int Try.underlying3 (hval 4 3 v4 rfl rfl) h4
  refine (scanrange_w s0 xs0 a1 a2 a3 a4 W hr0 hr1 hr2 hr4).mono fun e W' ⟨he, hg⟩ => ?_
  subst he
  have hB : Below W.heap.size W W' := hg
  have hlt := DataW.Whole.lt hW'
  exact ⟨_, rfl, post_of_below (pv := []) hW' (fun _ _ _ => (trodAll_cons_mk (shut_bool Try.underlying4 _) trodAll_mk0)) (fun sp hsp => trodAll_stays scanRange_k1 hB sp scanRange_reads hA1 (fun z hz => hlt z (by simpa using hz)) (fun z hz => hsp z (by simpa using hz))) (fun _ _ => rfl) rfl
    hB (ok_one (by kernel_rfl) rfl (okWide_bool_mk Try.underlying4 _))⟩
theorem scanRange_holds : Rows.scanRangeRow.holds Try.pinned (OpenSpec.ofChange Rows.scanRangeSpec) :=
  OpenClaim.holds_of_wide 12 Try.f12 rfl rfl rfl rfl rfl rfl rfl ⟨rfl, rfl, rfl, rfl, rfl⟩ rfl rfl rfl rfl rfl (by kernel_rfl) Try.func12 scanRange_join
    (of_decide_eq_true (by kernel_rfl)) (by unfold Func.isWrapper; first | (rw [if_pos (by decide +kernel)]; kernel_rfl) | (rw [if_neg (by decide +kernel)]; exact ⟨rfl, rfl⟩))
    (fun os started H enc _ => scanRange_lifted os started H enc)
theorem scanRange_said : Rows.ScanRangeSaid := scanRange_holds
#print axioms scanRange_said
end Go.Proofs.Ytpapoalgocmlaaa
