/- The statement SubsFolds: whatever the input, the law answers true, and the input reads as it did; no condition. -/
import Derived.Test.YtohajcflklejjaaGreatPgFacts
import Derived.Test.YtohajcflklejjaaGreatPga
import Derived.Test.YtohajcflklejjaaGreatPgb
import Derived.Test.YtohajcflklejjaaGreatPgc
import Derived.Test.YtohajcflklejjaaGreatPgd
import Derived.Test.YtohajcflklejjaaGreatPge
import Derived.Test.YtohajcflklejjaaGreatPgf
import Derived.Test.YtohajcflklejjaaGreatPgg
import Derived.Test.YtohajcflklejjaaGreatPgh
import Derived.Test.YtohajcflklejjaaGreatPgi
import Derived.Test.YtohajcflklejjaaGreatPgj
import Derived.Test.YtohajcflklejjaaGreatPgk
import Derived.Test.YtohajcflklejjaaGreatPgl
import Derived.Test.YtohajcflklejjaaGreatPgm
import Derived.ShutString
import Derived.Deep.CondSized
import Derived.JoinedCond
namespace Go.Proofs.YtohajcflklejjaaGreat
open Go.ChangeShapes Go.WideShapes Go.ChangeAt Go.RowKit
set_option linter.unusedVariables false
set_option linter.unusedSimpArgs false
set_option linter.unnecessarySimpa false
set_option maxRecDepth 100000
open Go.ChangeMaps (open_string shut_string)
theorem subsFolds_k0 : (Rows.subsFoldsUptoRow.wf (OpenSpec.ofChange Rows.subsFoldsSpec)) = true := by kernel_rfl
theorem subsFolds_k1 : (laidOutB Tryz.prog) = true := by kernel_rfl
theorem subsFolds_k2 : (mapsRowed Tryz.prog) = true := by kernel_rfl
theorem subsFolds_k3 : (Tryz.f6.params.all (Tryz.prog.readableRec ·)) = true := by kernel_rfl
theorem subsFolds_k4 : (namedTie Tryz.prog Rows.subsFoldsUptoRow.named Rows.subsFoldsSpec.vars) = true := by kernel_rfl
theorem subsFolds_k5 : ((Rows.subsFoldsUptoRow.stops == [])) = true := by kernel_rfl
theorem subsFolds_k6 : ((Tryz.prog.stops == [])) = true := by kernel_rfl
theorem subsFolds_k7 : ((Rows.subsFoldsUptoRow.knobs == [])) = true := by kernel_rfl
theorem subsFolds_k8 : ((Tryz.prog.stopKnobs == [])) = true := by kernel_rfl
theorem subsFolds_k9 : ((Rows.subsFoldsUptoRow.inPlace == Tryz.prog.inPlace 6)) = true := by kernel_rfl
theorem subsFolds_k10 : ((Rows.subsFoldsUptoRow.unfollowed == Tryz.prog.unfollowed 6)) = true := by kernel_rfl
theorem subsFolds_k11 : ((Rows.subsFoldsUptoRow.recurses == Tryz.prog.recurses 6)) = true := by kernel_rfl
theorem subsFolds_k12 : ((Rows.subsFoldsUptoRow.named == Tryz.prog.varsNamed 6)) = true := by kernel_rfl
theorem subsFolds_k13 : ((Rows.subsFoldsUptoRow.maps == (Tryz.f6.params.toList ++ Rows.subsFoldsSpec.plain.varTypes Tryz.prog).any (Tryz.prog.mapsRec ·))) = true := by kernel_rfl
theorem subsFolds_k14 : ((Rows.subsFoldsUptoRow.ifaces == (Tryz.f6.params.toList ++ Rows.subsFoldsSpec.plain.varTypes Tryz.prog).any (Tryz.prog.ifacesRec ·))) = true := by kernel_rfl
theorem subsFolds_k15 : ((Rows.subsFoldsUptoRow.mapsOut == Tryz.prog.mapsAmong Tryz.f6.resultTypes.toList)) = true := by kernel_rfl
theorem subsFolds_k16 : ((Rows.subsFoldsUptoRow.loops == (Tryz.f6.params.toList ++ Rows.subsFoldsSpec.plain.varTypes Tryz.prog).any (Tryz.prog.loopsFrom ·))) = true := by kernel_rfl
theorem subsFolds_k17 : ((Rows.subsFoldsUptoRow.wideKeys == (Tryz.f6.params.toList ++ Rows.subsFoldsSpec.plain.varTypes Tryz.prog ++ Tryz.f6.resultTypes.toList).any (Tryz.prog.wideKeysFrom ·))) = true := by kernel_rfl
theorem subsFolds_k18 : (Rows.subsFoldsSpec.vars.all (Tryz.prog.varReadable ·)) = true := by kernel_rfl
theorem subsFolds_k19 : (Tryz.f6.resultTypes.all (fun t => Tryz.prog.readableRec t && decide (t < Tryz.prog.types.size))) = true := by kernel_rfl
theorem subsFolds_k20 : ((Rows.subsFoldsUptoRow.ifacesOut == Tryz.f6.resultTypes.toList.any (Tryz.prog.ifacesRec ·))) = true := by kernel_rfl
theorem subsFolds_k21 : ((Rows.subsFoldsUptoRow.loopsOut == Tryz.f6.resultTypes.toList.any (Tryz.prog.loopsFrom ·))) = true := by kernel_rfl
theorem subsFolds_k22 : ((Rows.subsFoldsUptoRow.plainKeys == Tryz.prog.plainKeys)) = true := by kernel_rfl
theorem subsFolds_k23 : (Rows.subsFoldsUptoRow.shortTexts.isNone) = true := by kernel_rfl
theorem subsFolds_k24 : (Tryz.prog.stopsHeard) = true := by kernel_rfl
theorem subsFolds_k25 : (Tryz.prog.mayEnter) = true := mayEnter_of Tryz.prog (behindMainWord (wordsSigns initSigns)) (congrArg (fun l => behindMainWord (wordsSigns l)) initL) initStrip1 initStrip2 initLays initReflect initDoors
theorem subsFolds_k26 : ((Rows.subsFoldsUptoRow.lifted == Tryz.prog.liftsFinal)) = true := beq_of (liftsFinal_of Tryz.prog (behindMainWord (wordsSigns initSigns)) (congrArg (fun l => behindMainWord (wordsSigns l)) initL) initStrip1 initHead)
theorem subsFolds_k27 : ((Tryz.prog.make == some Rows.subsFoldsUptoRow.make)) = true := by rw [make_of Tryz.prog (behindMainWord (wordsSigns initSigns)) (congrArg (fun l => behindMainWord (wordsSigns l)) initL) initHead]; rfl
theorem subsFolds_k28 : ((Rows.subsFoldsUptoRow.kinds == [])) = true := by kernel_rfl
theorem subsFolds_k29 : ((Rows.subsFoldsUptoRow.pinned == Rows.subsFoldsUptoRow.pinnedBy)) = true := by kernel_rfl
theorem subsFolds_k30 : ((Rows.subsFoldsUptoRow.veiled == (Tryz.f6.params.toList ++ Rows.subsFoldsSpec.plain.varTypes Tryz.prog ++ Tryz.f6.resultTypes.toList).any (Tryz.prog.veiledRec ·))) = true := by kernel_rfl
theorem subsFolds_k31 : (Rows.subsFoldsUptoRow.veiledFits Tryz.prog Tryz.f6.params.toList (Tryz.f6.params.toList ++ Rows.subsFoldsSpec.plain.varTypes Tryz.prog ++ Tryz.f6.resultTypes.toList)) = true := by kernel_rfl
theorem subsFolds_dom : (Rows.subsFoldsUptoRow.domain.isEmpty) = true := by kernel_rfl
theorem subsFolds_join : joinedFacts Tryz.prog 6 Tryz.f6 Rows.subsFoldsSpec Rows.subsFoldsUptoRow = true :=
  join_of subsFolds_dom subsFolds_k0 subsFolds_k1 subsFolds_k2 subsFolds_k3 subsFolds_k4 subsFolds_k5 subsFolds_k6 subsFolds_k7 subsFolds_k8 subsFolds_k9 subsFolds_k10 subsFolds_k11 subsFolds_k12 subsFolds_k13 subsFolds_k14 subsFolds_k15 subsFolds_k16 subsFolds_k17 subsFolds_k18 subsFolds_k19 subsFolds_k20 subsFolds_k21 subsFolds_k22 subsFolds_k23 subsFolds_k24 subsFolds_k25 subsFolds_k26 subsFolds_k27 subsFolds_k28 subsFolds_k29 subsFolds_k30 subsFolds_k31
theorem subsFolds_reads : ∀ t ∈ Tryz.f6.params.toList, Tryz.prog.readableRec t = true ∧ t < Tryz.prog.types.size := by
  have h : (Tryz.f6.params.toList.all fun t => Tryz.prog.readableRec t && decide (t < Tryz.prog.types.size)) = true := by kernel_rfl
  intro t ht
  simpa using List.all_eq_true.1 h t ht
theorem subsFolds_lifted (os : Os) (started : os.Started) (H : Type) (enc : TypeId × Value → H) (F : Stop.Interp) :
    ReturnsInHanded {} Tryz.checked os 6 .any ((Rows.OpenSpec.upto Rows.subsFoldsSpec).pre6 enc Tryz.prog Tryz.f6 Rows.subsFoldsUptoRow.domain false) (((Rows.OpenSpec.upto Rows.subsFoldsSpec).at F).post enc Tryz.prog Tryz.f6 false true false false) := by
  refine returnsInHanded_of_cond_sized (C := Tryz.checked) (s := Rows.OpenSpec.upto Rows.subsFoldsSpec) (k := Rows.uptoSmall) rfl ownNone started (by kernel_rfl) Tryz.func6
    (OpenSpec.witness (enc := enc) (C := Tryz.checked) (s := Rows.OpenSpec.upto Rows.subsFoldsSpec) (k := Rows.uptoSmall) rfl false ⟨#[], #[.slice none 0 0, .agg #[.int .i64 0, .int .i64 0, .string ByteArray.empty, .string ByteArray.empty, .bool false, .int .u64 0, .slice none 0 0, .slice none 0 0], .agg #[.int .i64 0, .int .i64 0, .string ByteArray.empty, .string ByteArray.empty, .bool false, .int .u64 0, .slice none 0 0, .slice none 0 0]], []⟩ 8 (by kernel_rfl) (by kernel_rfl) (by kernel_rfl)
      (x := ([.nil, .agg [.lit (.int .i64 0), .agg [.lit (.int .i64 0), .lit (.string []), .lit (.string []), .lit (.bool false)], .lit (.int .u64 0), .nil, .nil], .agg [.lit (.int .i64 0), .agg [.lit (.int .i64 0), .lit (.string []), .lit (.string []), .lit (.bool false)], .lit (.int .u64 0), .nil, .nil]], [], [])) (by kernel_rfl) rfl (by kernel_rfl)) ?_
  intro W base args ds gs before hval0 hW _ hk hwt _
  have hval : ∀ (j : Nat) t v, Tryz.f6.params[j]? = some t → args[j]? = some v → Value.okWide Tryz.prog W .any base t v := hval0
  have hW' := hW
  obtain ⟨p, q, hA0, hV, rfl, hfz, hnd⟩ := hW
  have hA : DataW.TrodAll enc Tryz.prog W 0 (fun _ => true) true Tryz.f6.params.toList args.toList ds p := hA0
  have hA1 := hA
  rw [Tryz.params6] at hA hval
  obtain ⟨v0, vs0, d0, ds0, p0, q0, hargs, rfl, rfl, h0, r0⟩ := trodAll_cons hA
  obtain ⟨v1, vs1, d1, ds1, p1, q1, rfl, rfl, rfl, h1, r1⟩ := trodAll_cons r0
  obtain ⟨v2, vs2, d2, ds2, p2, q2, rfl, rfl, rfl, h2, r2⟩ := trodAll_cons r1
  obtain ⟨rfl, rfl, rfl⟩ := trodAll_nil r2
  obtain rfl : args = #[v0, v1, v2] := by cases args; simp_all
  obtain ⟨rfl, rfl⟩ := trodVars_none hV
  clear hA0 hval0 hargs
  have w0 : WOk Tryz.prog 68 d0 := weightsEach_at hwt 0 _ _ (by kernel_rfl) rfl
  obtain ⟨fuel0, f0⟩ := h0
  obtain ⟨s0, xs0, hc0, hr0⟩ := qs_of_trod f0 w0
  obtain ⟨ad0, n0, c0, rfl⟩ := okWide_slice Tryz.underlying68 (hval 0 68 v0 rfl rfl)
  have e0 : Value.slice ad0 n0 c0 = .slice s0.a xs0.length s0.c := by simpa [Value.cells] using hc0
  rw [e0] at hA1 hW' ⊢
  have w1 : WOk Tryz.prog 71 d1 := weightsEach_at hwt 1 _ _ (by kernel_rfl) rfl
  obtain ⟨fuel1, f1⟩ := h1
  obtain ⟨x1, hc1, hr1', hb1⟩ := act27_of_trod9 f1 w1
  replace hb1 : _ ≤ Rows.uptoBulk d1 := hb1
  have hr1 : A27 W (Lt W.heap.size) x1 ∧ x1.es.length * 9 + x1.gs.length ≤ 1048576 := ⟨hr1', by
      have hB : Rows.uptoBulkAll _ ≤ 1048576 := of_decide_eq_true hk
      simp only [Rows.uptoBulkAll, List.append_nil, List.cons_append, List.nil_append] at hB
      have hb' : _ ≤ Rows.uptoBulk d1 := hb1
      omega⟩
  obtain ⟨cs1, rfl, -⟩ := okWide_struct Tryz.underlying71 (hval 1 71 v1 rfl rfl)
  have e1 : Value.agg cs1 = x1.v := congrArg Value.agg (Array.toList_inj.1 (by simpa only [Value.cells] using hc1))
  rw [e1] at hA1 hW' ⊢
  have w2 : WOk Tryz.prog 71 d2 := weightsEach_at hwt 2 _ _ (by kernel_rfl) rfl
  obtain ⟨fuel2, f2⟩ := h2
  obtain ⟨x2, hc2, hr2', hb2⟩ := act27_of_trod9 f2 w2
  replace hb2 : _ ≤ Rows.uptoBulk d2 := hb2
  have hr2 : A27 W (Lt W.heap.size) x2 ∧ (x1.es.length + x2.es.length) * 9 + x2.gs.length ≤ 1048576 := ⟨hr2', by
      have hB : Rows.uptoBulkAll _ ≤ 1048576 := of_decide_eq_true hk
      simp only [Rows.uptoBulkAll, List.append_nil, List.cons_append, List.nil_append] at hB
      have hb' : _ ≤ Rows.uptoBulk d2 := hb2
      omega⟩
  obtain ⟨cs2, rfl, -⟩ := okWide_struct Tryz.underlying71 (hval 2 71 v2 rfl rfl)
  have e2 : Value.agg cs2 = x2.v := congrArg Value.agg (Array.toList_inj.1 (by simpa only [Value.cells] using hc2))
  rw [e2] at hA1 hW' ⊢
  refine (subsfolds_w s0 xs0 x1 x2 W hr0 hr1 hr2).mono fun e W' ⟨he, hg⟩ => ?_
  subst he
  have hB : Below W.heap.size W W' := hg
  have hlt := DataW.Whole.lt hW'
  exact ⟨_, rfl, post_of_below (pv := []) hW' (fun _ _ _ => (trodAll_cons_mk (shut_bool Tryz.underlying4 _) trodAll_mk0)) (fun sp hsp => trodAll_stays subsFolds_k1 hB sp subsFolds_reads hA1 (fun z hz => hlt z (by simpa using hz)) (fun z hz => hsp z (by simpa using hz))) (fun _ _ => rfl) rfl
    hB (ok_one (by kernel_rfl) rfl (okWide_bool_mk Tryz.underlying4 _))⟩
theorem subsFolds_holds : Rows.subsFoldsUptoRow.holds Tryz.pinned (Rows.OpenSpec.upto Rows.subsFoldsSpec) :=
  OpenClaim.holds_of_cond 6 Tryz.f6 rfl rfl rfl rfl rfl rfl rfl ⟨rfl, rfl, rfl, rfl, rfl⟩ rfl rfl rfl rfl rfl (by kernel_rfl) Tryz.func6 subsFolds_join
    (of_decide_eq_true (by kernel_rfl)) (by unfold Func.isWrapper; first | (rw [if_pos (by decide +kernel)]; kernel_rfl) | (rw [if_neg (by decide +kernel)]; exact ⟨rfl, rfl⟩))
    (fun os started H enc _ F => subsFolds_lifted os started H enc F)
theorem subsFolds_upto : Rows.SubsFoldsUptoSaid := subsFolds_holds
#print axioms subsFolds_upto
end Go.Proofs.YtohajcflklejjaaGreat
