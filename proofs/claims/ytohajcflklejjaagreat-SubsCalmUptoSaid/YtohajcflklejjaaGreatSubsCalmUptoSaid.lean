/- The statement SubsCalm: whatever the input, the law answers true, and the input reads as it did; no condition. -/
import Derived.Test.YtohajcflklejjaaGreatPqFacts
import Derived.Test.YtohajcflklejjaaGreatPqa
import Derived.Test.YtohajcflklejjaaGreatPqb
import Derived.Test.YtohajcflklejjaaGreatPqc
import Derived.Test.YtohajcflklejjaaGreatPqd
import Derived.Test.YtohajcflklejjaaGreatPqe
import Derived.Test.YtohajcflklejjaaGreatPqf
import Derived.Test.YtohajcflklejjaaGreatPqg
import Derived.Test.YtohajcflklejjaaGreatPqh
import Derived.Test.YtohajcflklejjaaGreatPqi
import Derived.Test.YtohajcflklejjaaGreatPqj
import Derived.Test.YtohajcflklejjaaGreatPqk
import Derived.Test.YtohajcflklejjaaGreatPql
import Derived.ShutString
import Derived.Deep.CondSized
import Derived.JoinedCond
namespace Go.Proofs.YtohajcflklejjaaGreat
open Go.ChangeShapes Go.WideShapes Go.ChangeAt Go.RowKit
set_option linter.unusedVariables false
set_option linter.unusedSimpArgs false
set_option linter.unnecessarySimpa false
set_option maxRecDepth 100000
open Go.ChangeMaps (open_string shut_string)
theorem subsCalm_k0 : (Rows.subsCalmUptoRow.wf (OpenSpec.ofChange Rows.subsCalmSpec)) = true := by kernel_rfl
theorem subsCalm_k1 : (laidOutB Tryz.prog) = true := by kernel_rfl
theorem subsCalm_k2 : (mapsRowed Tryz.prog) = true := by kernel_rfl
theorem subsCalm_k3 : (Tryz.f10.params.all (Tryz.prog.readableRec ·)) = true := by kernel_rfl
theorem subsCalm_k4 : (namedTie Tryz.prog Rows.subsCalmUptoRow.named Rows.subsCalmSpec.vars) = true := by kernel_rfl
theorem subsCalm_k5 : ((Rows.subsCalmUptoRow.stops == [])) = true := by kernel_rfl
theorem subsCalm_k6 : ((Tryz.prog.stops == [])) = true := by kernel_rfl
theorem subsCalm_k7 : ((Rows.subsCalmUptoRow.knobs == [])) = true := by kernel_rfl
theorem subsCalm_k8 : ((Tryz.prog.stopKnobs == [])) = true := by kernel_rfl
theorem subsCalm_k9 : ((Rows.subsCalmUptoRow.inPlace == Tryz.prog.inPlace 10)) = true := by kernel_rfl
theorem subsCalm_k10 : ((Rows.subsCalmUptoRow.unfollowed == Tryz.prog.unfollowed 10)) = true := by kernel_rfl
theorem subsCalm_k11 : ((Rows.subsCalmUptoRow.recurses == Tryz.prog.recurses 10)) = true := by kernel_rfl
theorem subsCalm_k12 : ((Rows.subsCalmUptoRow.named == Tryz.prog.varsNamed 10)) = true := by kernel_rfl
theorem subsCalm_k13 : ((Rows.subsCalmUptoRow.maps == (Tryz.f10.params.toList ++ Rows.subsCalmSpec.plain.varTypes Tryz.prog).any (Tryz.prog.mapsRec ·))) = true := by kernel_rfl
theorem subsCalm_k14 : ((Rows.subsCalmUptoRow.ifaces == (Tryz.f10.params.toList ++ Rows.subsCalmSpec.plain.varTypes Tryz.prog).any (Tryz.prog.ifacesRec ·))) = true := by kernel_rfl
theorem subsCalm_k15 : ((Rows.subsCalmUptoRow.mapsOut == Tryz.prog.mapsAmong Tryz.f10.resultTypes.toList)) = true := by kernel_rfl
theorem subsCalm_k16 : ((Rows.subsCalmUptoRow.loops == (Tryz.f10.params.toList ++ Rows.subsCalmSpec.plain.varTypes Tryz.prog).any (Tryz.prog.loopsFrom ·))) = true := by kernel_rfl
theorem subsCalm_k17 : ((Rows.subsCalmUptoRow.wideKeys == (Tryz.f10.params.toList ++ Rows.subsCalmSpec.plain.varTypes Tryz.prog ++ Tryz.f10.resultTypes.toList).any (Tryz.prog.wideKeysFrom ·))) = true := by kernel_rfl
theorem subsCalm_k18 : (Rows.subsCalmSpec.vars.all (Tryz.prog.varReadable ·)) = true := by kernel_rfl
theorem subsCalm_k19 : (Tryz.f10.resultTypes.all (fun t => Tryz.prog.readableRec t && decide (t < Tryz.prog.types.size))) = true := by kernel_rfl
theorem subsCalm_k20 : ((Rows.subsCalmUptoRow.ifacesOut == Tryz.f10.resultTypes.toList.any (Tryz.prog.ifacesRec ·))) = true := by kernel_rfl
theorem subsCalm_k21 : ((Rows.subsCalmUptoRow.loopsOut == Tryz.f10.resultTypes.toList.any (Tryz.prog.loopsFrom ·))) = true := by kernel_rfl
theorem subsCalm_k22 : ((Rows.subsCalmUptoRow.plainKeys == Tryz.prog.plainKeys)) = true := by kernel_rfl
theorem subsCalm_k23 : (Rows.subsCalmUptoRow.shortTexts.isNone) = true := by kernel_rfl
theorem subsCalm_k24 : (Tryz.prog.stopsHeard) = true := by kernel_rfl
theorem subsCalm_k25 : (Tryz.prog.mayEnter) = true := mayEnter_of Tryz.prog (behindMainWord (wordsSigns initSigns)) (congrArg (fun l => behindMainWord (wordsSigns l)) initL) initStrip1 initStrip2 initLays initReflect initDoors
theorem subsCalm_k26 : ((Rows.subsCalmUptoRow.lifted == Tryz.prog.liftsFinal)) = true := beq_of (liftsFinal_of Tryz.prog (behindMainWord (wordsSigns initSigns)) (congrArg (fun l => behindMainWord (wordsSigns l)) initL) initStrip1 initHead)
theorem subsCalm_k27 : ((Tryz.prog.make == some Rows.subsCalmUptoRow.make)) = true := by rw [make_of Tryz.prog (behindMainWord (wordsSigns initSigns)) (congrArg (fun l => behindMainWord (wordsSigns l)) initL) initHead]; rfl
theorem subsCalm_k28 : ((Rows.subsCalmUptoRow.kinds == [])) = true := by kernel_rfl
theorem subsCalm_k29 : ((Rows.subsCalmUptoRow.pinned == Rows.subsCalmUptoRow.pinnedBy)) = true := by kernel_rfl
theorem subsCalm_k30 : ((Rows.subsCalmUptoRow.veiled == (Tryz.f10.params.toList ++ Rows.subsCalmSpec.plain.varTypes Tryz.prog ++ Tryz.f10.resultTypes.toList).any (Tryz.prog.veiledRec ·))) = true := by kernel_rfl
theorem subsCalm_k31 : (Rows.subsCalmUptoRow.veiledFits Tryz.prog Tryz.f10.params.toList (Tryz.f10.params.toList ++ Rows.subsCalmSpec.plain.varTypes Tryz.prog ++ Tryz.f10.resultTypes.toList)) = true := by kernel_rfl
theorem subsCalm_dom : (Rows.subsCalmUptoRow.domain.isEmpty) = true := by kernel_rfl
theorem subsCalm_join : joinedFacts Tryz.prog 10 Tryz.f10 Rows.subsCalmSpec Rows.subsCalmUptoRow = true :=
  join_of subsCalm_dom subsCalm_k0 subsCalm_k1 subsCalm_k2 subsCalm_k3 subsCalm_k4 subsCalm_k5 subsCalm_k6 subsCalm_k7 subsCalm_k8 subsCalm_k9 subsCalm_k10 subsCalm_k11 subsCalm_k12 subsCalm_k13 subsCalm_k14 subsCalm_k15 subsCalm_k16 subsCalm_k17 subsCalm_k18 subsCalm_k19 subsCalm_k20 subsCalm_k21 subsCalm_k22 subsCalm_k23 subsCalm_k24 subsCalm_k25 subsCalm_k26 subsCalm_k27 subsCalm_k28 subsCalm_k29 subsCalm_k30 subsCalm_k31
theorem subsCalm_reads : ∀ t ∈ Tryz.f10.params.toList, Tryz.prog.readableRec t = true ∧ t < Tryz.prog.types.size := by
  have h : (Tryz.f10.params.toList.all fun t => Tryz.prog.readableRec t && decide (t < Tryz.prog.types.size)) = true := by kernel_rfl
  intro t ht
  simpa using List.all_eq_true.1 h t ht
theorem subsCalm_lifted (os : Os) (started : os.Started) (H : Type) (enc : TypeId × Value → H) (F : Stop.Interp) :
    ReturnsInHanded {} Tryz.checked os 10 .any ((Rows.OpenSpec.upto Rows.subsCalmSpec).pre6 enc Tryz.prog Tryz.f10 Rows.subsCalmUptoRow.domain false) (((Rows.OpenSpec.upto Rows.subsCalmSpec).at F).post enc Tryz.prog Tryz.f10 false true false false) := by
  refine returnsInHanded_of_cond_sized (C := Tryz.checked) (s := Rows.OpenSpec.upto Rows.subsCalmSpec) (k := Rows.uptoSmall) rfl ownNone started (by kernel_rfl) Tryz.func10
    (OpenSpec.witness (enc := enc) (C := Tryz.checked) (s := Rows.OpenSpec.upto Rows.subsCalmSpec) (k := Rows.uptoSmall) rfl false ⟨#[], #[.agg #[.int .i64 0, .string ByteArray.empty, .string ByteArray.empty, .bool false], .agg #[.int .i64 0, .int .i64 0, .string ByteArray.empty, .string ByteArray.empty, .bool false, .int .u64 0, .slice none 0 0, .slice none 0 0]], []⟩ 8 (by kernel_rfl) (by kernel_rfl) (by kernel_rfl)
      (x := ([.agg [.lit (.int .i64 0), .lit (.string []), .lit (.string []), .lit (.bool false)], .agg [.lit (.int .i64 0), .agg [.lit (.int .i64 0), .lit (.string []), .lit (.string []), .lit (.bool false)], .lit (.int .u64 0), .nil, .nil]], [], [])) (by kernel_rfl) rfl (by kernel_rfl)) ?_
  intro W base args ds gs before hval0 hW _ hk hwt _
  have hval : ∀ (j : Nat) t v, Tryz.f10.params[j]? = some t → args[j]? = some v → Value.okWide Tryz.prog W .any base t v := hval0
  have hW' := hW
  obtain ⟨p, q, hA0, hV, rfl, hfz, hnd⟩ := hW
  have hA : DataW.TrodAll enc Tryz.prog W 0 (fun _ => true) true Tryz.f10.params.toList args.toList ds p := hA0
  have hA1 := hA
  rw [Tryz.params10] at hA hval
  obtain ⟨v0, vs0, d0, ds0, p0, q0, hargs, rfl, rfl, h0, r0⟩ := trodAll_cons hA
  obtain ⟨v1, vs1, d1, ds1, p1, q1, rfl, rfl, rfl, h1, r1⟩ := trodAll_cons r0
  obtain ⟨rfl, rfl, rfl⟩ := trodAll_nil r1
  obtain rfl : args = #[v0, v1] := by cases args; simp_all
  obtain ⟨rfl, rfl⟩ := trodVars_none hV
  clear hA0 hval0 hargs
  have w0 : WOk Tryz.prog 24 d0 := weightsEach_at hwt 0 _ _ (by kernel_rfl) rfl
  obtain ⟨fuel0, f0⟩ := h0
  obtain ⟨x0, hc0, hr0⟩ := query_of_trod f0 w0
  obtain ⟨cs0, rfl, -⟩ := okWide_struct Tryz.underlying24 (hval 0 24 v0 rfl rfl)
  have e0 : Value.agg cs0 = x0.v := congrArg Value.agg (Array.toList_inj.1 (by simpa only [Value.cells] using hc0))
  rw [e0] at hA1 hW' ⊢
  have w1 : WOk Tryz.prog 71 d1 := weightsEach_at hwt 1 _ _ (by kernel_rfl) rfl
  obtain ⟨fuel1, f1⟩ := h1
  obtain ⟨x1, hc1, hr1', hb1⟩ := act27_of_trod f1 w1
  have hr1 : A27 W (Lt W.heap.size) x1 ∧ x1.es.length * 3 + x1.gs.length ≤ 1048576 := ⟨hr1', by
      have hB : Rows.uptoBulkAll _ ≤ 1048576 := of_decide_eq_true hk
      simp only [Rows.uptoBulkAll, List.append_nil, List.cons_append, List.nil_append] at hB
      have hb' : _ ≤ Rows.uptoBulk d1 := hb1
      omega⟩
  obtain ⟨cs1, rfl, -⟩ := okWide_struct Tryz.underlying71 (hval 1 71 v1 rfl rfl)
  have e1 : Value.agg cs1 = x1.v := congrArg Value.agg (Array.toList_inj.1 (by simpa only [Value.cells] using hc1))
  rw [e1] at hA1 hW' ⊢
  refine (subscalm_w x0 x1 W hr0 hr1).mono fun e W' ⟨he, hg⟩ => ?_
  subst he
  have hB : Below W.heap.size W W' := hg
  have hlt := DataW.Whole.lt hW'
  exact ⟨_, rfl, post_of_below (pv := []) hW' (fun _ _ _ => (trodAll_cons_mk (shut_bool Tryz.underlying4 _) trodAll_mk0)) (fun sp hsp => trodAll_stays subsCalm_k1 hB sp subsCalm_reads hA1 (fun z hz => hlt z (by simpa using hz)) (fun z hz => hsp z (by simpa using hz))) (fun _ _ => rfl) rfl
    hB (ok_one (by kernel_rfl) rfl (okWide_bool_mk Tryz.underlying4 _))⟩
theorem subsCalm_holds : Rows.subsCalmUptoRow.holds Tryz.pinned (Rows.OpenSpec.upto Rows.subsCalmSpec) :=
  OpenClaim.holds_of_cond 10 Tryz.f10 rfl rfl rfl rfl rfl rfl rfl ⟨rfl, rfl, rfl, rfl, rfl⟩ rfl rfl rfl rfl rfl (by kernel_rfl) Tryz.func10 subsCalm_join
    (of_decide_eq_true (by kernel_rfl)) (by unfold Func.isWrapper; first | (rw [if_pos (by decide +kernel)]; kernel_rfl) | (rw [if_neg (by decide +kernel)]; exact ⟨rfl, rfl⟩))
    (fun os started H enc _ F => subsCalm_lifted os started H enc F)
theorem subsCalm_upto : Rows.SubsCalmUptoSaid := subsCalm_holds
#print axioms subsCalm_upto
end Go.Proofs.YtohajcflklejjaaGreat
