/- The statement SubsApart: whatever the input, the law answers true, and the input reads as it did; no condition. -/
import Derived.Test.YtohajcflklejjaaGreatPqFacts
import Derived.Test.YtohajcflklejjaaGreatPqa
import Derived.Test.YtohajcflklejjaaGreatPqb
import Derived.Test.YtohajcflklejjaaGreatPqc
import Derived.Test.YtohajcflklejjaaGreatPqd
import Derived.Test.YtohajcflklejjaaGreatPqe
import Derived.Test.YtohajcflklejjaaGreatPqf
import Derived.Test.YtohajcflklejjaaGreatPqg
import Derived.Test.YtohajcflklejjaaGreatPqh
import Derived.Test.YtohajcflklejjaaGreatPqi
import Derived.Test.YtohajcflklejjaaGreatPqj
import Derived.Test.YtohajcflklejjaaGreatPqk
import Derived.Test.YtohajcflklejjaaGreatPql
import Derived.Test.YtohajcflklejjaaGreatPqn
import Derived.Test.YtohajcflklejjaaGreatPqo
import Derived.Test.YtohajcflklejjaaGreatPqp
import Derived.ShutString
import Derived.Deep.CondSized
import Derived.JoinedCond
namespace Go.Proofs.YtohajcflklejjaaGreat
open Go.ChangeShapes Go.WideShapes Go.ChangeAt Go.RowKit
set_option linter.unusedVariables false
set_option linter.unusedSimpArgs false
set_option linter.unnecessarySimpa false
set_option maxRecDepth 100000
open Go.ChangeMaps (open_string shut_string)
theorem subsApart_k0 : (Rows.subsApartUptoRow.wf (OpenSpec.ofChange Rows.subsApartSpec)) = true := by kernel_rfl
theorem subsApart_k1 : (laidOutB Tryz.prog) = true := by kernel_rfl
theorem subsApart_k2 : (mapsRowed Tryz.prog) = true := by kernel_rfl
theorem subsApart_k3 : (Tryz.f7.params.all (Tryz.prog.readableRec ·)) = true := by kernel_rfl
theorem subsApart_k4 : (namedTie Tryz.prog Rows.subsApartUptoRow.named Rows.subsApartSpec.vars) = true := by kernel_rfl
theorem subsApart_k5 : ((Rows.subsApartUptoRow.stops == [])) = true := by kernel_rfl
theorem subsApart_k6 : ((Tryz.prog.stops == [])) = true := by kernel_rfl
theorem subsApart_k7 : ((Rows.subsApartUptoRow.knobs == [])) = true := by kernel_rfl
theorem subsApart_k8 : ((Tryz.prog.stopKnobs == [])) = true := by kernel_rfl
theorem subsApart_k9 : ((Rows.subsApartUptoRow.inPlace == Tryz.prog.inPlace 7)) = true := by kernel_rfl
theorem subsApart_k10 : ((Rows.subsApartUptoRow.unfollowed == Tryz.prog.unfollowed 7)) = true := by kernel_rfl
theorem subsApart_k11 : ((Rows.subsApartUptoRow.recurses == Tryz.prog.recurses 7)) = true := by kernel_rfl
theorem subsApart_k12 : ((Rows.subsApartUptoRow.named == Tryz.prog.varsNamed 7)) = true := by kernel_rfl
theorem subsApart_k13 : ((Rows.subsApartUptoRow.maps == (Tryz.f7.params.toList ++ Rows.subsApartSpec.plain.varTypes Tryz.prog).any (Tryz.prog.mapsRec ·))) = true := by kernel_rfl
theorem subsApart_k14 : ((Rows.subsApartUptoRow.ifaces == (Tryz.f7.params.toList ++ Rows.subsApartSpec.plain.varTypes Tryz.prog).any (Tryz.prog.ifacesRec ·))) = true := by kernel_rfl
theorem subsApart_k15 : ((Rows.subsApartUptoRow.mapsOut == Tryz.prog.mapsAmong Tryz.f7.resultTypes.toList)) = true := by kernel_rfl
theorem subsApart_k16 : ((Rows.subsApartUptoRow.loops == (Tryz.f7.params.toList ++ Rows.subsApartSpec.plain.varTypes Tryz.prog).any (Tryz.prog.loopsFrom ·))) = true := by kernel_rfl
theorem subsApart_k17 : ((Rows.subsApartUptoRow.wideKeys == (Tryz.f7.params.toList ++ Rows.subsApartSpec.plain.varTypes Tryz.prog ++ Tryz.f7.resultTypes.toList).any (Tryz.prog.wideKeysFrom ·))) = true := by kernel_rfl
theorem subsApart_k18 : (Rows.subsApartSpec.vars.all (Tryz.prog.varReadable ·)) = true := by kernel_rfl
theorem subsApart_k19 : (Tryz.f7.resultTypes.all (fun t => Tryz.prog.readableRec t && decide (t < Tryz.prog.types.size))) = true := by kernel_rfl
theorem subsApart_k20 : ((Rows.subsApartUptoRow.ifacesOut == Tryz.f7.resultTypes.toList.any (Tryz.prog.ifacesRec ·))) = true := by kernel_rfl
theorem subsApart_k21 : ((Rows.subsApartUptoRow.loopsOut == Tryz.f7.resultTypes.toList.any (Tryz.prog.loopsFrom ·))) = true := by kernel_rfl
theorem subsApart_k22 : ((Rows.subsApartUptoRow.plainKeys == Tryz.prog.plainKeys)) = true := by kernel_rfl
theorem subsApart_k23 : (Rows.subsApartUptoRow.shortTexts.isNone) = true := by kernel_rfl
theorem subsApart_k24 : (Tryz.prog.stopsHeard) = true := by kernel_rfl
theorem subsApart_k25 : (Tryz.prog.mayEnter) = true := mayEnter_of Tryz.prog (behindMainWord (wordsSigns initSigns)) (congrArg (fun l => behindMainWord (wordsSigns l)) initL) initStrip1 initStrip2 initLays initReflect initDoors
theorem subsApart_k26 : ((Rows.subsApartUptoRow.lifted == Tryz.prog.liftsFinal)) = true := beq_of (liftsFinal_of Tryz.prog (behindMainWord (wordsSigns initSigns)) (congrArg (fun l => behindMainWord (wordsSigns l)) initL) initStrip1 initHead)
theorem subsApart_k27 : ((Tryz.prog.make == some Rows.subsApartUptoRow.make)) = true := by rw [make_of Tryz.prog (behindMainWord (wordsSigns initSigns)) (congrArg (fun l => behindMainWord (wordsSigns l)) initL) initHead]; rfl
theorem subsApart_k28 : ((Rows.subsApartUptoRow.kinds == [])) = true := by kernel_rfl
theorem subsApart_k29 : ((Rows.subsApartUptoRow.pinned == Rows.subsApartUptoRow.pinnedBy)) = true := by kernel_rfl
theorem subsApart_k30 : ((Rows.subsApartUptoRow.veiled == (Tryz.f7.params.toList ++ Rows.subsApartSpec.plain.varTypes Tryz.prog ++ Tryz.f7.resultTypes.toList).any (Tryz.prog.veiledRec ·))) = true := by kernel_rfl
theorem subsApart_k31 : (Rows.subsApartUptoRow.veiledFits Tryz.prog Tryz.f7.params.toList (Tryz.f7.params.toList ++ Rows.subsApartSpec.plain.varTypes Tryz.prog ++ Tryz.f7.resultTypes.toList)) = true := by kernel_rfl
theorem subsApart_dom : (Rows.subsApartUptoRow.domain.isEmpty) = true := by kernel_rfl
theorem subsApart_join : joinedFacts Tryz.prog 7 Tryz.f7 Rows.subsApartSpec Rows.subsApartUptoRow = true :=
  join_of subsApart_dom subsApart_k0 subsApart_k1 subsApart_k2 subsApart_k3 subsApart_k4 subsApart_k5 subsApart_k6 subsApart_k7 subsApart_k8 subsApart_k9 subsApart_k10 subsApart_k11 subsApart_k12 subsApart_k13 subsApart_k14 subsApart_k15 subsApart_k16 subsApart_k17 subsApart_k18 subsApart_k19 subsApart_k20 subsApart_k21 subsApart_k22 subsApart_k23 subsApart_k24 subsApart_k25 subsApart_k26 subsApart_k27 subsApart_k28 subsApart_k29 subsApart_k30 subsApart_k31
theorem subsApart_reads : ∀ t ∈ Tryz.f7.params.toList, Tryz.prog.readableRec t = true ∧ t < Tryz.prog.types.size := by
  have h : (Tryz.f7.params.toList.all fun t => Tryz.prog.readableRec t && decide (t < Tryz.prog.types.size)) = true := by kernel_rfl
  intro t ht
  simpa using List.all_eq_true.1 h t ht
theorem subsApart_lifted (os : Os) (started : os.Started) (H : Type) (enc : TypeId × Value → H) (F : Stop.Interp) :
    ReturnsInHanded {} Tryz.checked os 7 .any ((Rows.OpenSpec.upto Rows.subsApartSpec).pre6 enc Tryz.prog Tryz.f7 Rows.subsApartUptoRow.domain false) (((Rows.OpenSpec.upto Rows.subsApartSpec).at F).post enc Tryz.prog Tryz.f7 false true false false) := by
  refine returnsInHanded_of_cond_sized (C := Tryz.checked) (s := Rows.OpenSpec.upto Rows.subsApartSpec) (k := Rows.uptoSmall) rfl ownNone started (by kernel_rfl) Tryz.func7
    (OpenSpec.witness (enc := enc) (C := Tryz.checked) (s := Rows.OpenSpec.upto Rows.subsApartSpec) (k := Rows.uptoSmall) rfl false ⟨#[], #[.slice none 0 0, .agg #[.int .i64 0, .string ByteArray.empty, .string ByteArray.empty, .bool false], .agg #[.int .i64 0, .int .i64 0, .string ByteArray.empty, .string ByteArray.empty, .bool false, .int .u64 0, .slice none 0 0, .slice none 0 0], .agg #[.int .i64 0, .int .i64 0, .string ByteArray.empty, .string ByteArray.empty, .bool false, .int .u64 0, .slice none 0 0, .slice none 0 0]], []⟩ 8 (by kernel_rfl) (by kernel_rfl) (by kernel_rfl)
      (x := ([.nil, .agg [.lit (.int .i64 0), .lit (.string []), .lit (.string []), .lit (.bool false)], .agg [.lit (.int .i64 0), .agg [.lit (.int .i64 0), .lit (.string []), .lit (.string []), .lit (.bool false)], .lit (.int .u64 0), .nil, .nil], .agg [.lit (.int .i64 0), .agg [.lit (.int .i64 0), .lit (.string []), .lit (.string []), .lit (.bool false)], .lit (.int .u64 0), .nil, .nil]], [], [])) (by kernel_rfl) rfl (by kernel_rfl)) ?_
  intro W base args ds gs before hval0 hW _ hk hwt _
  have hval : ∀ (j : Nat) t v, Tryz.f7.params[j]? = some t → args[j]? = some v → Value.okWide Tryz.prog W .any base t v := hval0
  have hW' := hW
  obtain ⟨p, q, hA0, hV, rfl, hfz, hnd⟩ := hW
  have hA : DataW.TrodAll enc Tryz.prog W 0 (fun _ => true) true Tryz.f7.params.toList args.toList ds p := hA0
  have hA1 := hA
  rw [Tryz.params7] at hA hval
  obtain ⟨v0, vs0, d0, ds0, p0, q0, hargs, rfl, rfl, h0, r0⟩ := trodAll_cons hA
  obtain ⟨v1, vs1, d1, ds1, p1, q1, rfl, rfl, rfl, h1, r1⟩ := trodAll_cons r0
  obtain ⟨v2, vs2, d2, ds2, p2, q2, rfl, rfl, rfl, h2, r2⟩ := trodAll_cons r1
  obtain ⟨v3, vs3, d3, ds3, p3, q3, rfl, rfl, rfl, h3, r3⟩ := trodAll_cons r2
  obtain ⟨rfl, rfl, rfl⟩ := trodAll_nil r3
  obtain rfl : args = #[v0, v1, v2, v3] := by cases args; simp_all
  obtain ⟨rfl, rfl⟩ := trodVars_none hV
  clear hA0 hval0 hargs
  have w0 : WOk Tryz.prog 68 d0 := weightsEach_at hwt 0 _ _ (by kernel_rfl) rfl
  obtain ⟨fuel0, f0⟩ := h0
  obtain ⟨s0, xs0, hc0, hr0⟩ := qs_of_trod f0 w0
  obtain ⟨ad0, n0, c0, rfl⟩ := okWide_slice Tryz.underlying68 (hval 0 68 v0 rfl rfl)
  have e0 : Value.slice ad0 n0 c0 = .slice s0.a xs0.length s0.c := by simpa [Value.cells] using hc0
  rw [e0] at hA1 hW' ⊢
  have w1 : WOk Tryz.prog 24 d1 := weightsEach_at hwt 1 _ _ (by kernel_rfl) rfl
  obtain ⟨fuel1, f1⟩ := h1
  obtain ⟨x1, hc1, hr1⟩ := query_of_trod f1 w1
  obtain ⟨cs1, rfl, -⟩ := okWide_struct Tryz.underlying24 (hval 1 24 v1 rfl rfl)
  have e1 : Value.agg cs1 = x1.v := congrArg Value.agg (Array.toList_inj.1 (by simpa only [Value.cells] using hc1))
  rw [e1] at hA1 hW' ⊢
  have w2 : WOk Tryz.prog 71 d2 := weightsEach_at hwt 2 _ _ (by kernel_rfl) rfl
  obtain ⟨fuel2, f2⟩ := h2
  obtain ⟨x2, hc2, hr2', hb2⟩ := act27_of_trod f2 w2
  replace hb2 : _ ≤ Rows.uptoBulk d2 := hb2
  have hr2 : A27 W (Lt W.heap.size) x2 ∧ x2.es.length * 3 + x2.gs.length ≤ 1048576 := ⟨hr2', by
      have hB : Rows.uptoBulkAll _ ≤ 1048576 := of_decide_eq_true hk
      simp only [Rows.uptoBulkAll, List.append_nil, List.cons_append, List.nil_append] at hB
      have hb' : _ ≤ Rows.uptoBulk d2 := hb2
      omega⟩
  obtain ⟨cs2, rfl, -⟩ := okWide_struct Tryz.underlying71 (hval 2 71 v2 rfl rfl)
  have e2 : Value.agg cs2 = x2.v := congrArg Value.agg (Array.toList_inj.1 (by simpa only [Value.cells] using hc2))
  rw [e2] at hA1 hW' ⊢
  have w3 : WOk Tryz.prog 71 d3 := weightsEach_at hwt 3 _ _ (by kernel_rfl) rfl
  obtain ⟨fuel3, f3⟩ := h3
  obtain ⟨x3, hc3, hr3', hb3⟩ := act27_of_trod f3 w3
  replace hb3 : _ ≤ Rows.uptoBulk d3 := hb3
  have hr3 : A27 W (Lt W.heap.size) x3 ∧ (x2.es.length + x3.es.length) * 3 + x3.gs.length ≤ 1048576 := ⟨hr3', by
      have hB : Rows.uptoBulkAll _ ≤ 1048576 := of_decide_eq_true hk
      simp only [Rows.uptoBulkAll, List.append_nil, List.cons_append, List.nil_append] at hB
      have hb' : _ ≤ Rows.uptoBulk d3 := hb3
      omega⟩
  obtain ⟨cs3, rfl, -⟩ := okWide_struct Tryz.underlying71 (hval 3 71 v3 rfl rfl)
  have e3 : Value.agg cs3 = x3.v := congrArg Value.agg (Array.toList_inj.1 (by simpa only [Value.cells] using hc3))
  rw [e3] at hA1 hW' ⊢
  refine (subsapart_w s0 xs0 x1 x2 x3 W hr0 hr1 hr2 hr3).mono fun e W' ⟨he, hg⟩ => ?_
  subst he
  have hB : Below W.heap.size W W' := hg
  have hlt := DataW.Whole.lt hW'
  exact ⟨_, rfl, post_of_below (pv := []) hW' (fun _ _ _ => (trodAll_cons_mk (shut_bool Tryz.underlying4 _) trodAll_mk0)) (fun sp hsp => trodAll_stays subsApart_k1 hB sp subsApart_reads hA1 (fun z hz => hlt z (by simpa using hz)) (fun z hz => hsp z (by simpa using hz))) (fun _ _ => rfl) rfl
    hB (ok_one (by kernel_rfl) rfl (okWide_bool_mk Tryz.underlying4 _))⟩
theorem subsApart_holds : Rows.subsApartUptoRow.holds Tryz.pinned (Rows.OpenSpec.upto Rows.subsApartSpec) :=
  OpenClaim.holds_of_cond 7 Tryz.f7 rfl rfl rfl rfl rfl rfl rfl ⟨rfl, rfl, rfl, rfl, rfl⟩ rfl rfl rfl rfl rfl (by kernel_rfl) Tryz.func7 subsApart_join
    (of_decide_eq_true (by kernel_rfl)) (by unfold Func.isWrapper; first | (rw [if_pos (by decide +kernel)]; kernel_rfl) | (rw [if_neg (by decide +kernel)]; exact ⟨rfl, rfl⟩))
    (fun os started H enc _ F => subsApart_lifted os started H enc F)
theorem subsApart_upto : Rows.SubsApartUptoSaid := subsApart_holds
#print axioms subsApart_upto
end Go.Proofs.YtohajcflklejjaaGreat
