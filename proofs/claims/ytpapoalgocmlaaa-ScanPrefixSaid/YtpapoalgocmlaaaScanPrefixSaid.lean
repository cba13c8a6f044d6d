/- The statement ScanPrefix: whatever the input, the law answers true, and the input reads as it did; no condition. -/
import Derived.Test.YtpapoalgocmlaaaFacts
import Derived.Test.YtpapoalgocmlaaaMf
import Derived.Test.YtpapoalgocmlaaaScanPrefix
import Derived.ShutString
namespace Go.Proofs.Ytpapoalgocmlaaa
open Go.ChangeShapes Go.WideShapes Go.ChangeAt Go.RowKit
set_option linter.unusedVariables false
set_option linter.unusedSimpArgs false
set_option maxRecDepth 100000
open Go.ChangeMaps (open_string shut_string)
theorem scanPrefix_k0 : (Rows.scanPrefixRow.wf (OpenSpec.ofChange Rows.scanPrefixSpec)) = true := by kernel_rfl
theorem scanPrefix_k1 : (laidOutB Try.prog) = true := by kernel_rfl
theorem scanPrefix_k2 : (mapsRowed Try.prog) = true := by kernel_rfl
theorem scanPrefix_k3 : (Try.f13.params.all (Try.prog.readableRec ·)) = true := by kernel_rfl
theorem scanPrefix_k4 : (namedTie Try.prog Rows.scanPrefixRow.named Rows.scanPrefixSpec.vars) = true := by kernel_rfl
theorem scanPrefix_k5 : ((Rows.scanPrefixRow.stops == [])) = true := by kernel_rfl
theorem scanPrefix_k6 : ((Try.prog.stops == [])) = true := by kernel_rfl
theorem scanPrefix_k7 : ((Rows.scanPrefixRow.knobs == [])) = true := by kernel_rfl
theorem scanPrefix_k8 : ((Try.prog.stopKnobs == [])) = true := by kernel_rfl
theorem scanPrefix_k9 : ((Rows.scanPrefixRow.inPlace == Try.prog.inPlace 13)) = true := by kernel_rfl
theorem scanPrefix_k10 : ((Rows.scanPrefixRow.unfollowed == Try.prog.unfollowed 13)) = true := by kernel_rfl
theorem scanPrefix_k11 : ((Rows.scanPrefixRow.recurses == Try.prog.recurses 13)) = true := by kernel_rfl
theorem scanPrefix_k12 : ((Rows.scanPrefixRow.named == Try.prog.varsNamed 13)) = true := by kernel_rfl
theorem scanPrefix_k13 : ((Rows.scanPrefixRow.maps == (Try.f13.params.toList ++ Rows.scanPrefixSpec.plain.varTypes Try.prog).any (Try.prog.mapsRec ·))) = true := by kernel_rfl
theorem scanPrefix_k14 : ((Rows.scanPrefixRow.ifaces == (Try.f13.params.toList ++ Rows.scanPrefixSpec.plain.varTypes Try.prog).any (Try.prog.ifacesRec ·))) = true := by kernel_rfl
theorem scanPrefix_k15 : ((Rows.scanPrefixRow.mapsOut == Try.prog.mapsAmong Try.f13.resultTypes.toList)) = true := by kernel_rfl
theorem scanPrefix_k16 : ((Rows.scanPrefixRow.loops == (Try.f13.params.toList ++ Rows.scanPrefixSpec.plain.varTypes Try.prog).any (Try.prog.loopsFrom ·))) = true := by kernel_rfl
theorem scanPrefix_k17 : ((Rows.scanPrefixRow.wideKeys == (Try.f13.params.toList ++ Rows.scanPrefixSpec.plain.varTypes Try.prog ++ Try.f13.resultTypes.toList).any (Try.prog.wideKeysFrom ·))) = true := by kernel_rfl
theorem scanPrefix_k18 : (Rows.scanPrefixSpec.vars.all (Try.prog.varReadable ·)) = true := by kernel_rfl
theorem scanPrefix_k19 : (Try.f13.resultTypes.all (fun t => Try.prog.readableRec t && decide (t < Try.prog.types.size))) = true := by kernel_rfl
theorem scanPrefix_k20 : ((Rows.scanPrefixRow.ifacesOut == Try.f13.resultTypes.toList.any (Try.prog.ifacesRec ·))) = true := by kernel_rfl
theorem scanPrefix_k21 : ((Rows.scanPrefixRow.loopsOut == Try.f13.resultTypes.toList.any (Try.prog.loopsFrom ·))) = true := by kernel_rfl
theorem scanPrefix_k22 : ((Rows.scanPrefixRow.plainKeys == Try.prog.plainKeys)) = true := by kernel_rfl
theorem scanPrefix_k23 : (Rows.scanPrefixRow.shortTexts.isNone) = true := by kernel_rfl
theorem scanPrefix_k24 : (Try.prog.stopsHeard) = true := by kernel_rfl
theorem scanPrefix_k25 : (Try.prog.mayEnter) = true := mayEnter_of Try.prog (behindMainWord (wordsSigns initSigns)) (congrArg (fun l => behindMainWord (wordsSigns l)) initL) initStrip1 initStrip2 initLays initReflect initDoors
theorem scanPrefix_k26 : ((Rows.scanPrefixRow.lifted == Try.prog.liftsFinal)) = true := beq_of (liftsFinal_of Try.prog (behindMainWord (wordsSigns initSigns)) (congrArg (fun l => behindMainWord (wordsSigns l)) initL) initStrip1 initHead)
theorem scanPrefix_k27 : ((Try.prog.make == some Rows.scanPrefixRow.make)) = true := by rw [make_of Try.prog (behindMainWord (wordsSigns initSigns)) (congrArg (fun l => behindMainWord (wordsSigns l)) initL) initHead]; rfl
theorem scanPrefix_k28 : ((Rows.scanPrefixRow.kinds == [])) = true := by kernel_rfl
theorem scanPrefix_k29 : ((Rows.scanPrefixRow.pinned == Rows.scanPrefixRow.pinnedBy)) = true := by kernel_rfl
theorem scanPrefix_k30 : ((Rows.scanPrefixRow.veiled == (Try.f13.params.toList ++ Rows.scanPrefixSpec.plain.varTypes Try.prog ++ Try.f13.resultTypes.toList).any (Try.prog.veiledRec ·))) = true := by kernel_rfl
theorem scanPrefix_k31 : (Rows.scanPrefixRow.veiledFits Try.prog Try.f13.params.toList (Try.f13.params.toList ++ Rows.scanPrefixSpec.plain.varTypes Try.prog ++ Try.f13.resultTypes.toList)) = true := by kernel_rfl
theorem scanPrefix_dom : (Rows.scanPrefixRow.domain.isEmpty) = true := by kernel_rfl
theorem scanPrefix_join : joinedFacts Try.prog 13 Try.f13 Rows.scanPrefixSpec Rows.scanPrefixRow = true :=
  join_of scanPrefix_dom scanPrefix_k0 scanPrefix_k1 scanPrefix_k2 scanPrefix_k3 scanPrefix_k4 scanPrefix_k5 scanPrefix_k6 scanPrefix_k7 scanPrefix_k8 scanPrefix_k9 scanPrefix_k10 scanPrefix_k11 scanPrefix_k12 scanPrefix_k13 scanPrefix_k14 scanPrefix_k15 scanPrefix_k16 scanPrefix_k17 scanPrefix_k18 scanPrefix_k19 scanPrefix_k20 scanPrefix_k21 scanPrefix_k22 scanPrefix_k23 scanPrefix_k24 scanPrefix_k25 scanPrefix_k26 scanPrefix_k27 scanPrefix_k28 scanPrefix_k29 scanPrefix_k30 scanPrefix_k31
theorem scanPrefix_reads : ∀ t ∈ Try.f13.params.toList, Try.prog.readableRec t = true ∧ t < Try.prog.types.size := by
  have h : (Try.f13.params.toList.all fun t => Try.prog.readableRec t && decide (t < Try.prog.types.size)) = true := by kernel_rfl
  intro t ht
  simpa using List.all_eq_true.1 h t ht
theorem scanPrefix_lifted (os : Os) (started : os.Started) (H : Type) (enc : TypeId × Value → H) :
    ReturnsInHanded {} Try.checked os 13 .any (Rows.scanPrefixSpec.pre6 enc Try.prog Try.f13 Rows.scanPrefixRow.domain false) (Rows.scanPrefixSpec.post enc Try.prog Try.f13 false true false false) := by
  refine returnsInHanded_w (C := Try.checked) ownNone started (by kernel_rfl) Try.func13
    (ChangeSpec.witness6 (enc := enc) (C := Try.checked) false ⟨#[], #[.slice none 0 0, .string ByteArray.empty], []⟩ 8 (by kernel_rfl) (by kernel_rfl) (by kernel_rfl) (by kernel_rfl)) ?_
  intro W base args ds gs before hval0 hW hwt
  have hval : ∀ (j : Nat) t v, Try.f13.params[j]? = some t → args[j]? = some v → Value.okWide Try.prog W .any base t v := hval0
  have hW' := hW
  obtain ⟨p, q, hA0, hV, rfl, hfz, hnd⟩ := hW
  have hA : DataW.TrodAll enc Try.prog W 0 (fun _ => true) true Try.f13.params.toList args.toList ds p := hA0
  have hA1 := hA
  rw [Try.params13] at hA hval
  obtain ⟨v0, vs0, d0, ds0, p0, q0, hargs, rfl, rfl, h0, r0⟩ := trodAll_cons hA
  obtain ⟨v1, vs1, d1, ds1, p1, q1, rfl, rfl, rfl, h1, r1⟩ := trodAll_cons r0
  obtain ⟨rfl, rfl, rfl⟩ := trodAll_nil r1
  obtain rfl : args = #[v0, v1] := by cases args; simp_all
  obtain ⟨rfl, rfl⟩ := trodVars_none hV
  clear hA0 hval0 hargs
  have w0 : WOk Try.prog 53 d0 := weightsEach_at hwt 0 _ _ (by kernel_rfl) rfl
  obtain ⟨fuel0, f0⟩ := h0
  obtain ⟨s0, xs0, hc0, hr0⟩ := es_of_trod f0 w0
  obtain ⟨ad0, n0, c0, rfl⟩ := okWide_slice Try.underlying53 (hval 0 53 v0 rfl rfl)
  have e0 : Value.slice ad0 n0 c0 = .slice s0.a xs0.length s0.c := by simpa [Value.cells] using hc0
  rw [e0] at hA1 hW' ⊢
  obtain ⟨a1, rfl, rfl, rfl, hr1⟩ := open_string Try.underlying9 (hval 1 9 v1 rfl rfl) h1
  refine (scanpre_w s0 xs0 a1 W hr0 hr1).mono fun e W' ⟨he, hg⟩ => ?_
  subst he
  have hB : Below W.heap.size W W' := hg
  have hlt := DataW.Whole.lt hW'
  exact ⟨_, rfl, post_of_below (pv := []) hW' (fun _ _ _ => (trodAll_cons_mk (shut_bool Try.underlying4 _) trodAll_mk0)) (fun sp hsp => trodAll_stays scanPrefix_k1 hB sp scanPrefix_reads hA1 (fun z hz => hlt z (by simpa using hz)) (fun z hz => hsp z (by simpa using hz))) (fun _ _ => rfl) rfl
    hB (ok_one (by kernel_rfl) rfl (okWide_bool_mk Try.underlying4 _))⟩
theorem scanPrefix_holds : Rows.scanPrefixRow.holds Try.pinned (OpenSpec.ofChange Rows.scanPrefixSpec) :=
  OpenClaim.holds_of_wide 13 Try.f13 rfl rfl rfl rfl rfl rfl rfl ⟨rfl, rfl, rfl, rfl, rfl⟩ rfl rfl rfl rfl rfl (by kernel_rfl) Try.func13 scanPrefix_join
    (of_decide_eq_true (by kernel_rfl)) (by unfold Func.isWrapper; first | (rw [if_pos (by decide +kernel)]; kernel_rfl) | (rw [if_neg (by decide +kernel)]; exact ⟨rfl, rfl⟩))
    (fun os started H enc _ => scanPrefix_lifted os started H enc)
theorem scanPrefix_said : Rows.ScanPrefixSaid := scanPrefix_holds
#print axioms scanPrefix_said
end Go.Proofs.Ytpapoalgocmlaaa
