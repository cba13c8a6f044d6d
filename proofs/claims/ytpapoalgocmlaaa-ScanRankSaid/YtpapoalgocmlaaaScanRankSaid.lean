/- The statement ScanRank: whatever the input, the law answers true, and the input reads as it did; no condition. -/
import Derived.Test.YtpapoalgocmlaaaFacts
import Derived.Test.YtpapoalgocmlaaaMf
import Derived.Test.YtpapoalgocmlaaaScanRank
import Derived.ShutString
namespace Go.Proofs.Ytpapoalgocmlaaa
open Go.ChangeShapes Go.WideShapes Go.ChangeAt Go.RowKit
set_option linter.unusedVariables false
set_option linter.unusedSimpArgs false
set_option maxRecDepth 100000
open Go.ChangeMaps (open_string shut_string)
theorem scanRank_k0 : (Rows.scanRankRow.wf (OpenSpec.ofChange Rows.scanRankSpec)) = true := by kernel_rfl
theorem scanRank_k1 : (laidOutB Try.prog) = true := by kernel_rfl
theorem scanRank_k2 : (mapsRowed Try.prog) = true := by kernel_rfl
theorem scanRank_k3 : (Try.f14.params.all (Try.prog.readableRec ·)) = true := by kernel_rfl
theorem scanRank_k4 : (namedTie Try.prog Rows.scanRankRow.named Rows.scanRankSpec.vars) = true := by kernel_rfl
theorem scanRank_k5 : ((Rows.scanRankRow.stops == [])) = true := by kernel_rfl
theorem scanRank_k6 : ((Try.prog.stops == [])) = true := by kernel_rfl
theorem scanRank_k7 : ((Rows.scanRankRow.knobs == [])) = true := by kernel_rfl
theorem scanRank_k8 : ((Try.prog.stopKnobs == [])) = true := by kernel_rfl
theorem scanRank_k9 : ((Rows.scanRankRow.inPlace == Try.prog.inPlace 14)) = true := by kernel_rfl
theorem scanRank_k10 : ((Rows.scanRankRow.unfollowed == Try.prog.unfollowed 14)) = true := by kernel_rfl
theorem scanRank_k11 : ((Rows.scanRankRow.recurses == Try.prog.recurses 14)) = true := by kernel_rfl
theorem scanRank_k12 : ((Rows.scanRankRow.named == Try.prog.varsNamed 14)) = true := by kernel_rfl
theorem scanRank_k13 : ((Rows.scanRankRow.maps == (Try.f14.params.toList ++ Rows.scanRankSpec.plain.varTypes Try.prog).any (Try.prog.mapsRec ·))) = true := by kernel_rfl
theorem scanRank_k14 : ((Rows.scanRankRow.ifaces == (Try.f14.params.toList ++ Rows.scanRankSpec.plain.varTypes Try.prog).any (Try.prog.ifacesRec ·))) = true := by kernel_rfl
theorem scanRank_k15 : ((Rows.scanRankRow.mapsOut == Try.prog.mapsAmong Try.f14.resultTypes.toList)) = true := by kernel_rfl
theorem scanRank_k16 : ((Rows.scanRankRow.loops == (Try.f14.params.toList ++ Rows.scanRankSpec.plain.varTypes Try.prog).any (Try.prog.loopsFrom ·))) = true := by kernel_rfl
theorem scanRank_k17 : ((Rows.scanRankRow.wideKeys == (Try.f14.params.toList ++ Rows.scanRankSpec.plain.varTypes Try.prog ++ Try.f14.resultTypes.toList).any (Try.prog.wideKeysFrom ·))) = true := by kernel_rfl
theorem scanRank_k18 : (Rows.scanRankSpec.vars.all (Try.prog.varReadable ·)) = true := by kernel_rfl
theorem scanRank_k19 : (Try.f14.resultTypes.all (fun t => Try.prog.readableRec t && decide (t < Try.prog.types.size))) = true := by kernel_rfl
theorem scanRank_k20 : ((Rows.scanRankRow.ifacesOut == Try.f14.resultTypes.toList.any (Try.prog.ifacesRec ·))) = true := by kernel_rfl
theorem scanRank_k21 : ((Rows.scanRankRow.loopsOut == Try.f14.resultTypes.toList.any (Try.prog.loopsFrom ·))) = true := by kernel_rfl
theorem scanRank_k22 : ((Rows.scanRankRow.plainKeys == Try.prog.plainKeys)) = true := by kernel_rfl
theorem scanRank_k23 : (Rows.scanRankRow.shortTexts.isNone) = true := by kernel_rfl
theorem scanRank_k24 : (Try.prog.stopsHeard) = true := by kernel_rfl
theorem scanRank_k25 : (Try.prog.mayEnter) = true := mayEnter_of Try.prog (behindMainWord (wordsSigns initSigns)) (congrArg (fun l => behindMainWord (wordsSigns l)) initL) initStrip1 initStrip2 initLays initReflect initDoors
theorem scanRank_k26 : ((Rows.scanRankRow.lifted == Try.prog.liftsFinal)) = true := beq_of (liftsFinal_of Try.prog (behindMainWord (wordsSigns initSigns)) (congrArg (fun l => behindMainWord (wordsSigns l)) initL) initStrip1 initHead)
theorem scanRank_k27 : ((Try.prog.make == some Rows.scanRankRow.make)) = true := by rw [make_of Try.prog (behindMainWord (wordsSigns initSigns)) (congrArg (fun l => behindMainWord (wordsSigns l)) initL) initHead]; rfl
theorem scanRank_k28 : ((Rows.scanRankRow.kinds == [])) = true := by kernel_rfl
theorem scanRank_k29 : ((Rows.scanRankRow.pinned == Rows.scanRankRow.pinnedBy)) = true := by kernel_rfl
theorem scanRank_k30 : ((Rows.scanRankRow.veiled == (Try.f14.params.toList ++ Rows.scanRankSpec.plain.varTypes Try.prog ++ Try.f14.resultTypes.toList).any (Try.prog.veiledRec ·))) = true := by kernel_rfl
theorem scanRank_k31 : (Rows.scanRankRow.veiledFits Try.prog Try.f14.params.toList (Try.f14.params.toList ++ Rows.scanRankSpec.plain.varTypes Try.prog ++ Try.f14.resultTypes.toList)) = true := by kernel_rfl
theorem scanRank_dom : (Rows.scanRankRow.domain.isEmpty) = true := by kernel_rfl
theorem scanRank_join : joinedFacts Try.prog 14 Try.f14 Rows.scanRankSpec Rows.scanRankRow = true :=
  join_of scanRank_dom scanRank_k0 scanRank_k1 scanRank_k2 scanRank_k3 scanRank_k4 scanRank_k5 scanRank_k6 scanRank_k7 scanRank_k8 scanRank_k9 scanRank_k10 scanRank_k11 scanRank_k12 scanRank_k13 scanRank_k14 scanRank_k15 scanRank_k16 scanRank_k17 scanRank_k18 scanRank_k19 scanRank_k20 scanRank_k21 scanRank_k22 scanRank_k23 scanRank_k24 scanRank_k25 scanRank_k26 scanRank_k27 scanRank_k28 scanRank_k29 scanRank_k30 scanRank_k31
theorem scanRank_reads : ∀ t ∈ Try.f14.params.toList, Try.prog.readableRec t = true ∧ t < Try.prog.types.size := by
  have h : (Try.f14.params.toList.all fun t => Try.prog.readableRec t && decide (t < Try.prog.types.size)) = true := by kernel_rfl
  intro t ht
  simpa using List.all_eq_true.1 h t ht
theorem scanRank_lifted (os : Os) (started : os.Started) (H : Type) (enc : TypeId × Value → H) :
    ReturnsInHanded {} Try.checked os 14 .any (Rows.scanRankSpec.pre6 enc Try.prog Try.f14 Rows.scanRankRow.domain false) (Rows.scanRankSpec.post enc Try.prog Try.f14 false true false false) := by
  refine returnsInHanded_w (C := Try.checked) ownNone started (by kernel_rfl) Try.func14
    (ChangeSpec.witness6 (enc := enc) (C := Try.checked) false ⟨#[], #[.slice none 0 0, .string ByteArray.empty], []⟩ 8 (by kernel_rfl) (by kernel_rfl) (by kernel_rfl) (by kernel_rfl)) ?_
  intro W base args ds gs before hval0 hW hwt
  have hval : ∀ (j : Nat) t v, Try.f14.params[j]? = some t → args[j]? = some v → Value.okWide Try.prog W .any base t v := hval0
  have hW' := hW
  obtain ⟨p, q, hA0, hV, rfl, hfz, hnd⟩ := hW
  have hA : DataW.TrodAll enc Try.prog W 0 (fun _ => true) true Try.f14.params.toList args.toList ds p := hA0
  have hA1 := hA
  rw [Try.params14] at hA hval
  obtain ⟨v0, vs0, d0, ds0, p0, q0, hargs, rfl, rfl, h0, r0⟩ := trodAll_cons hA
  obtain ⟨v1, vs1, d1, ds1, p1, q1, rfl, rfl, rfl, h1, r1⟩ := trodAll_cons r0
  obtain ⟨rfl, rfl, rfl⟩ := trodAll_nil r1
  obtain rfl : args = #[v0, v1] := by cases args; simp_all
  obtain ⟨rfl, rfl⟩ := trodVars_none hV
  clear hA0 hval0 hargs
  have w0 : WOk Try.prog 53 d0 := weightsEach_at hwt 0 _ _ (by kernel_rfl) rfl
  obtain ⟨fuel0, f0⟩ := h0
  obtain ⟨s0, xs0, hc0, hr0⟩ := es_of_trod f0 w0
  obtain ⟨ad0, n0, c0, rfl⟩ := okWide_slice Try.underlying53 (hval 0 53 v0 rfl rfl)
  have e0 : Value.slice ad0 n0 c0 = .slice s0.a xs0.length s0.c := by simpa [Value.cells] using hc0
  rw [e0] at hA1 hW' ⊢
  obtain ⟨a1, rfl, rfl, rfl, hr1⟩ := open_string Try.underlying9 (hval 1 9 v1 rfl rfl) h1
  refine (scanrank_w s0 xs0 a1 W hr0 hr1).mono fun e W' ⟨he, hg⟩ => ?_
  subst he
  have hB : Below W.heap.size W W' := hg
  have hlt := DataW.Whole.lt hW'
  exact ⟨_, rfl, post_of_below (pv := []) hW' (fun _ _ _ => (trodAll_cons_mk (shut_bool Try.underlying4 _) trodAll_mk0)) (fun sp hsp => trodAll_stays scanRank_k1 hB sp scanRank_reads hA1 (fun z hz => hlt z (by simpa using hz)) (fun z hz => hsp z (by simpa using hz))) (fun _ _ => rfl) rfl
    hB (ok_one (by kernel_rfl) rfl (okWide_bool_mk Try.underlying4 _))⟩
theorem scanRank_holds : Rows.scanRankRow.holds Try.pinned (OpenSpec.ofChange Rows.scanRankSpec) :=
  OpenClaim.holds_of_wide 14 Try.f14 rfl rfl rfl rfl rfl rfl rfl ⟨rfl, rfl, rfl, rfl, rfl⟩ rfl rfl rfl rfl rfl (by kernel_rfl) Try.func14 scanRank_join
    (of_decide_eq_true (by kernel_rfl)) (by unfold Func.isWrapper; first | (rw [if_pos (by decide +kernel)]; kernel_rfl) | (rw [if_neg (by decide +kernel)]; exact ⟨rfl, rfl⟩))
    (fun os started H enc _ => scanRank_lifted os started H enc)
theorem scanRank_said : Rows.ScanRankSaid := scanRank_holds
#print axioms scanRank_said
end Go.Proofs.Ytpapoalgocmlaaa
