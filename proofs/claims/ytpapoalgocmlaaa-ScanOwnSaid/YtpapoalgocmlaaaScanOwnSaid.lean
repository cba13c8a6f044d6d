/- The statement ScanOwn: whatever the input, the law answers true, and the input reads as it did; no condition. -/
import Derived.Test.YtpapoalgocmlaaaFacts
import Derived.Test.YtpapoalgocmlaaaMf
import Derived.Test.YtpapoalgocmlaaaScanOwn
import Derived.ShutString
namespace Go.Proofs.Ytpapoalgocmlaaa
open Go.ChangeShapes Go.WideShapes Go.ChangeAt Go.RowKit
set_option linter.unusedVariables false
set_option linter.unusedSimpArgs false
set_option linter.unnecessarySimpa false
set_option maxRecDepth 100000
open Go.ChangeMaps (open_string shut_string)
theorem scanOwn_k0 : (Rows.scanOwnRow.wf (OpenSpec.ofChange Rows.scanOwnSpec)) = true := by kernel_rfl
theorem scanOwn_k1 : (laidOutB Try.prog) = true := by kernel_rfl
theorem scanOwn_k2 : (mapsRowed Try.prog) = true := by kernel_rfl
theorem scanOwn_k3 : (Try.f16.params.all (Try.prog.readableRec ·)) = true := by kernel_rfl
theorem scanOwn_k4 : (namedTie Try.prog Rows.scanOwnRow.named Rows.scanOwnSpec.vars) = true := by kernel_rfl
theorem scanOwn_k5 : ((Rows.scanOwnRow.stops == [])) = true := by kernel_rfl
theorem scanOwn_k6 : ((Try.prog.stops == [])) = true := by kernel_rfl
theorem scanOwn_k7 : ((Rows.scanOwnRow.knobs == [])) = true := by kernel_rfl
theorem scanOwn_k8 : ((Try.prog.stopKnobs == [])) = true := by kernel_rfl
theorem scanOwn_k9 : ((Rows.scanOwnRow.inPlace == Try.prog.inPlace 16)) = true := by kernel_rfl
theorem scanOwn_k10 : ((Rows.scanOwnRow.unfollowed == Try.prog.unfollowed 16)) = true := by kernel_rfl
theorem scanOwn_k11 : ((Rows.scanOwnRow.recurses == Try.prog.recurses 16)) = true := by kernel_rfl
theorem scanOwn_k12 : ((Rows.scanOwnRow.named == Try.prog.varsNamed 16)) = true := by kernel_rfl
theorem scanOwn_k13 : ((Rows.scanOwnRow.maps == (Try.f16.params.toList ++ Rows.scanOwnSpec.plain.varTypes Try.prog).any (Try.prog.mapsRec ·))) = true := by kernel_rfl
theorem scanOwn_k14 : ((Rows.scanOwnRow.ifaces == (Try.f16.params.toList ++ Rows.scanOwnSpec.plain.varTypes Try.prog).any (Try.prog.ifacesRec ·))) = true := by kernel_rfl
theorem scanOwn_k15 : ((Rows.scanOwnRow.mapsOut == Try.prog.mapsAmong Try.f16.resultTypes.toList)) = true := by kernel_rfl
theorem scanOwn_k16 : ((Rows.scanOwnRow.loops == (Try.f16.params.toList ++ Rows.scanOwnSpec.plain.varTypes Try.prog).any (Try.prog.loopsFrom ·))) = true := by kernel_rfl
theorem scanOwn_k17 : ((Rows.scanOwnRow.wideKeys == (Try.f16.params.toList ++ Rows.scanOwnSpec.plain.varTypes Try.prog ++ Try.f16.resultTypes.toList).any (Try.prog.wideKeysFrom ·))) = true := by kernel_rfl
theorem scanOwn_k18 : (Rows.scanOwnSpec.vars.all (Try.prog.varReadable ·)) = true := by kernel_rfl
theorem scanOwn_k19 : (Try.f16.resultTypes.all (fun t => Try.prog.readableRec t && decide (t < Try.prog.types.size))) = true := by kernel_rfl
theorem scanOwn_k20 : ((Rows.scanOwnRow.ifacesOut == Try.f16.resultTypes.toList.any (Try.prog.ifacesRec ·))) = true := by kernel_rfl
theorem scanOwn_k21 : ((Rows.scanOwnRow.loopsOut == Try.f16.resultTypes.toList.any (Try.prog.loopsFrom ·))) = true := by kernel_rfl
theorem scanOwn_k22 : ((Rows.scanOwnRow.plainKeys == Try.prog.plainKeys)) = true := by kernel_rfl
theorem scanOwn_k23 : (Rows.scanOwnRow.shortTexts.isNone) = true := by kernel_rfl
theorem scanOwn_k24 : (Try.prog.stopsHeard) = true := by kernel_rfl
theorem scanOwn_k25 : (Try.prog.mayEnter) = true := mayEnter_of Try.prog (behindMainWord (wordsSigns initSigns)) (congrArg (fun l => behindMainWord (wordsSigns l)) initL) initStrip1 initStrip2 initLays initReflect initDoors
theorem scanOwn_k26 : ((Rows.scanOwnRow.lifted == Try.prog.liftsFinal)) = true := beq_of (liftsFinal_of Try.prog (behindMainWord (wordsSigns initSigns)) (congrArg (fun l => behindMainWord (wordsSigns l)) initL) initStrip1 initHead)
theorem scanOwn_k27 : ((Try.prog.make == some Rows.scanOwnRow.make)) = true := by rw [make_of Try.prog (behindMainWord (wordsSigns initSigns)) (congrArg (fun l => behindMainWord (wordsSigns l)) initL) initHead]; rfl
theorem scanOwn_k28 : ((Rows.scanOwnRow.kinds == [])) = true := by kernel_rfl
theorem scanOwn_k29 : ((Rows.scanOwnRow.pinned == Rows.scanOwnRow.pinnedBy)) = true := by kernel_rfl
theorem scanOwn_k30 : ((Rows.scanOwnRow.veiled == (Try.f16.params.toList ++ Rows.scanOwnSpec.plain.varTypes Try.prog ++ Try.f16.resultTypes.toList).any (Try.prog.veiledRec ·))) = true := by kernel_rfl
theorem scanOwn_k31 : (Rows.scanOwnRow.veiledFits Try.prog Try.f16.params.toList (Try.f16.params.toList ++ Rows.scanOwnSpec.plain.varTypes Try.prog ++ Try.f16.resultTypes.toList)) = true := by kernel_rfl
theorem scanOwn_dom : (Rows.scanOwnRow.domain.isEmpty) = true := by kernel_rfl
theorem scanOwn_join : joinedFacts Try.prog 16 Try.f16 Rows.scanOwnSpec Rows.scanOwnRow = true :=
  join_of scanOwn_dom scanOwn_k0 scanOwn_k1 scanOwn_k2 scanOwn_k3 scanOwn_k4 scanOwn_k5 scanOwn_k6 scanOwn_k7 scanOwn_k8 scanOwn_k9 scanOwn_k10 scanOwn_k11 scanOwn_k12 scanOwn_k13 scanOwn_k14 scanOwn_k15 scanOwn_k16 scanOwn_k17 scanOwn_k18 scanOwn_k19 scanOwn_k20 scanOwn_k21 scanOwn_k22 scanOwn_k23 scanOwn_k24 scanOwn_k25 scanOwn_k26 scanOwn_k27 scanOwn_k28 scanOwn_k29 scanOwn_k30 scanOwn_k31
theorem scanOwn_reads : ∀ t ∈ Try.f16.params.toList, Try.prog.readableRec t = true ∧ t < Try.prog.types.size := by
  have h : (Try.f16.params.toList.all fun t => Try.prog.readableRec t && decide (t < Try.prog.types.size)) = true := by kernel_rfl
  intro t ht
  simpa using List.all_eq_true.1 h t ht
theorem scanOwn_lifted (os : Os) (started : os.Started) (H : Type) (enc : TypeId × Value → H) :
    ReturnsInHanded {} Try.checked os 16 .any (Rows.scanOwnSpec.pre6 enc Try.prog Try.f16 Rows.scanOwnRow.domain false) (Rows.scanOwnSpec.post enc Try.prog Try.f16 false true false false) := by
  refine returnsInHanded_w (C := Try.checked) ownNone started (by kernel_rfl) Try.func16
    (ChangeSpec.witness6 (enc := enc) (C := Try.checked) false ⟨#[], #[.string ByteArray.empty, .int .i64 0], []⟩ 8 (by kernel_rfl) (by kernel_rfl) (by kernel_rfl) (by kernel_rfl)) ?_
  intro W base args ds gs before hval0 hW hwt
  have hval : ∀ (j : Nat) t v, Try.f16.params[j]? = some t → args[j]? = some v → Value.okWide Try.prog W .any base t v := hval0
  have hW' := hW
  obtain ⟨p, q, hA0, hV, rfl, hfz, hnd⟩ := hW
  have hA : DataW.TrodAll enc Try.prog W 0 (fun _ => true) true Try.f16.params.toList args.toList ds p := hA0
  have hA1 := hA
  rw [Try.params16] at hA hval
  obtain ⟨v0, vs0, d0, ds0, p0, q0, hargs, rfl, rfl, h0, r0⟩ := trodAll_cons hA
  obtain ⟨v1, vs1, d1, ds1, p1, q1, rfl, rfl, rfl, h1, r1⟩ := trodAll_cons r0
  obtain ⟨rfl, rfl, rfl⟩ := trodAll_nil r1
  obtain rfl : args = #[v0, v1] := by cases args; simp_all
  obtain ⟨rfl, rfl⟩ := trodVars_none hV
  clear hA0 hval0 hargs
  obtain ⟨a0, rfl, rfl, rfl, hr0⟩ := open_string Try.underlying9 (hval 0 9 v0 rfl rfl) h0
  obtain ⟨a1, rfl, rfl, rfl, hr1⟩ := open_int Try.underlying2 (hval 1 2 v1 rfl rfl) h1
  refine (scanown_w a0 a1 W hr0 hr1).mono fun e W' ⟨he, hg⟩ => ?_
  subst he
  have hB : Below W.heap.size W W' := hg
  have hlt := DataW.Whole.lt hW'
  exact ⟨_, rfl, post_of_below (pv := []) hW' (fun _ _ _ => (trodAll_cons_mk (shut_bool Try.underlying4 _) trodAll_mk0)) (fun sp hsp => trodAll_stays scanOwn_k1 hB sp scanOwn_reads hA1 (fun z hz => hlt z (by simpa using hz)) (fun z hz => hsp z (by simpa using hz))) (fun _ _ => rfl) rfl
    hB (ok_one (by kernel_rfl) rfl (okWide_bool_mk Try.underlying4 _))⟩
theorem scanOwn_holds : Rows.scanOwnRow.holds Try.pinned (OpenSpec.ofChange Rows.scanOwnSpec) :=
  OpenClaim.holds_of_wide 16 Try.f16 rfl rfl rfl rfl rfl rfl rfl ⟨rfl, rfl, rfl, rfl, rfl⟩ rfl rfl rfl rfl rfl (by kernel_rfl) Try.func16 scanOwn_join
    (of_decide_eq_true (by kernel_rfl)) (by unfold Func.isWrapper; first | (rw [if_pos (by decide +kernel)]; kernel_rfl) | (rw [if_neg (by decide +kernel)]; exact ⟨rfl, rfl⟩))
    (fun os started H enc _ => scanOwn_lifted os started H enc)
theorem scanOwn_said : Rows.ScanOwnSaid := scanOwn_holds
#print axioms scanOwn_said
end Go.Proofs.Ytpapoalgocmlaaa
