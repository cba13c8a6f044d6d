/- The statement SubsPrefix: whatever the input, the law answers true, and the input reads as it did; no condition. -/
import Derived.Test.YtohajcflklejjaaGreatPqFacts
import Derived.Test.YtohajcflklejjaaGreatPqa
import Derived.Test.YtohajcflklejjaaGreatPqb
import Derived.Test.YtohajcflklejjaaGreatPqc
import Derived.Test.YtohajcflklejjaaGreatPqd
import Derived.Test.YtohajcflklejjaaGreatPqe
import Derived.Test.YtohajcflklejjaaGreatPqf
import Derived.Test.YtohajcflklejjaaGreatPqg
import Derived.Test.YtohajcflklejjaaGreatPqh
import Derived.Test.YtohajcflklejjaaGreatPqi
import Derived.Test.YtohajcflklejjaaGreatPqj
import Derived.Test.YtohajcflklejjaaGreatPqk
import Derived.Test.YtohajcflklejjaaGreatPql
import Derived.Test.YtohajcflklejjaaGreatPqm
import Derived.ShutString
import Derived.Deep.CondSized
import Derived.JoinedCond
namespace Go.Proofs.YtohajcflklejjaaGreat
open Go.ChangeShapes Go.WideShapes Go.ChangeAt Go.RowKit
set_option linter.unusedVariables false
set_option linter.unusedSimpArgs false
set_option linter.unnecessarySimpa false
set_option maxRecDepth 100000
open Go.ChangeMaps (open_string shut_string)
theorem subsPrefix_k0 : (Rows.subsPrefixUptoRow.wf (OpenSpec.ofChange Rows.subsPrefixSpec)) = true := by kernel_rfl
theorem subsPrefix_k1 : (laidOutB Tryz.prog) = true := by kernel_rfl
theorem subsPrefix_k2 : (mapsRowed Tryz.prog) = true := by kernel_rfl
theorem subsPrefix_k3 : (Tryz.f8.params.all (Tryz.prog.readableRec ·)) = true := by kernel_rfl
theorem subsPrefix_k4 : (namedTie Tryz.prog Rows.subsPrefixUptoRow.named Rows.subsPrefixSpec.vars) = true := by kernel_rfl
theorem subsPrefix_k5 : ((Rows.subsPrefixUptoRow.stops == [])) = true := by kernel_rfl
theorem subsPrefix_k6 : ((Tryz.prog.stops == [])) = true := by kernel_rfl
theorem subsPrefix_k7 : ((Rows.subsPrefixUptoRow.knobs == [])) = true := by kernel_rfl
theorem subsPrefix_k8 : ((Tryz.prog.stopKnobs == [])) = true := by kernel_rfl
theorem subsPrefix_k9 : ((Rows.subsPrefixUptoRow.inPlace == Tryz.prog.inPlace 8)) = true := by kernel_rfl
theorem subsPrefix_k10 : ((Rows.subsPrefixUptoRow.unfollowed == Tryz.prog.unfollowed 8)) = true := by kernel_rfl
theorem subsPrefix_k11 : ((Rows.subsPrefixUptoRow.recurses == Tryz.prog.recurses 8)) = true := by kernel_rfl
theorem subsPrefix_k12 : ((Rows.subsPrefixUptoRow.named == Tryz.prog.varsNamed 8)) = true := by kernel_rfl
theorem subsPrefix_k13 : ((Rows.subsPrefixUptoRow.maps == (Tryz.f8.params.toList ++ Rows.subsPrefixSpec.plain.varTypes Tryz.prog).any (Tryz.prog.mapsRec ·))) = true := by kernel_rfl
theorem subsPrefix_k14 : ((Rows.subsPrefixUptoRow.ifaces == (Tryz.f8.params.toList ++ Rows.subsPrefixSpec.plain.varTypes Tryz.prog).any (Tryz.prog.ifacesRec ·))) = true := by kernel_rfl
theorem subsPrefix_k15 : ((Rows.subsPrefixUptoRow.mapsOut == Tryz.prog.mapsAmong Tryz.f8.resultTypes.toList)) = true := by kernel_rfl
theorem subsPrefix_k16 : ((Rows.subsPrefixUptoRow.loops == (Tryz.f8.params.toList ++ Rows.subsPrefixSpec.plain.varTypes Tryz.prog).any (Tryz.prog.loopsFrom ·))) = true := by kernel_rfl
theorem subsPrefix_k17 : ((Rows.subsPrefixUptoRow.wideKeys == (Tryz.f8.params.toList ++ Rows.subsPrefixSpec.plain.varTypes Tryz.prog ++ Tryz.f8.resultTypes.toList).any (Tryz.prog.wideKeysFrom ·))) = true := by kernel_rfl
theorem subsPrefix_k18 : (Rows.subsPrefixSpec.vars.all (Tryz.prog.varReadable ·)) = true := by kernel_rfl
theorem subsPrefix_k19 : (Tryz.f8.resultTypes.all (fun t => Tryz.prog.readableRec t && decide (t < Tryz.prog.types.size))) = true := by kernel_rfl
theorem subsPrefix_k20 : ((Rows.subsPrefixUptoRow.ifacesOut == Tryz.f8.resultTypes.toList.any (Tryz.prog.ifacesRec ·))) = true := by kernel_rfl
theorem subsPrefix_k21 : ((Rows.subsPrefixUptoRow.loopsOut == Tryz.f8.resultTypes.toList.any (Tryz.prog.loopsFrom ·))) = true := by kernel_rfl
theorem subsPrefix_k22 : ((Rows.subsPrefixUptoRow.plainKeys == Tryz.prog.plainKeys)) = true := by kernel_rfl
theorem subsPrefix_k23 : (Rows.subsPrefixUptoRow.shortTexts.isNone) = true := by kernel_rfl
theorem subsPrefix_k24 : (Tryz.prog.stopsHeard) = true := by kernel_rfl
theorem subsPrefix_k25 : (Tryz.prog.mayEnter) = true := mayEnter_of Tryz.prog (behindMainWord (wordsSigns initSigns)) (congrArg (fun l => behindMainWord (wordsSigns l)) initL) initStrip1 initStrip2 initLays initReflect initDoors
theorem subsPrefix_k26 : ((Rows.subsPrefixUptoRow.lifted == Tryz.prog.liftsFinal)) = true := beq_of (liftsFinal_of Tryz.prog (behindMainWord (wordsSigns initSigns)) (congrArg (fun l => behindMainWord (wordsSigns l)) initL) initStrip1 initHead)
theorem subsPrefix_k27 : ((Tryz.prog.make == some Rows.subsPrefixUptoRow.make)) = true := by rw [make_of Tryz.prog (behindMainWord (wordsSigns initSigns)) (congrArg (fun l => behindMainWord (wordsSigns l)) initL) initHead]; rfl
theorem subsPrefix_k28 : ((Rows.subsPrefixUptoRow.kinds == [])) = true := by kernel_rfl
theorem subsPrefix_k29 : ((Rows.subsPrefixUptoRow.pinned == Rows.subsPrefixUptoRow.pinnedBy)) = true := by kernel_rfl
theorem subsPrefix_k30 : ((Rows.subsPrefixUptoRow.veiled == (Tryz.f8.params.toList ++ Rows.subsPrefixSpec.plain.varTypes Tryz.prog ++ Tryz.f8.resultTypes.toList).any (Tryz.prog.veiledRec ·))) = true := by kernel_rfl
theorem subsPrefix_k31 : (Rows.subsPrefixUptoRow.veiledFits Tryz.prog Tryz.f8.params.toList (Tryz.f8.params.toList ++ Rows.subsPrefixSpec.plain.varTypes Tryz.prog ++ Tryz.f8.resultTypes.toList)) = true := by kernel_rfl
theorem subsPrefix_dom : (Rows.subsPrefixUptoRow.domain.isEmpty) = true := by kernel_rfl
theorem subsPrefix_join : joinedFacts Tryz.prog 8 Tryz.f8 Rows.subsPrefixSpec Rows.subsPrefixUptoRow = true :=
  join_of subsPrefix_dom subsPrefix_k0 subsPrefix_k1 subsPrefix_k2 subsPrefix_k3 subsPrefix_k4 subsPrefix_k5 subsPrefix_k6 subsPrefix_k7 subsPrefix_k8 subsPrefix_k9 subsPrefix_k10 subsPrefix_k11 subsPrefix_k12 subsPrefix_k13 subsPrefix_k14 subsPrefix_k15 subsPrefix_k16 subsPrefix_k17 subsPrefix_k18 subsPrefix_k19 subsPrefix_k20 subsPrefix_k21 subsPrefix_k22 subsPrefix_k23 subsPrefix_k24 subsPrefix_k25 subsPrefix_k26 subsPrefix_k27 subsPrefix_k28 subsPrefix_k29 subsPrefix_k30 subsPrefix_k31
theorem subsPrefix_reads : ∀ t ∈ Tryz.f8.params.toList, Tryz.prog.readableRec t = true ∧ t < Tryz.prog.types.size := by
  have h : (Tryz.f8.params.toList.all fun t => Tryz.prog.readableRec t && decide (t < Tryz.prog.types.size)) = true := by kernel_rfl
  intro t ht
  simpa using List.all_eq_true.1 h t ht
theorem subsPrefix_lifted (os : Os) (started : os.Started) (H : Type) (enc : TypeId × Value → H) (F : Stop.Interp) :
    ReturnsInHanded {} Tryz.checked os 8 .any ((Rows.OpenSpec.upto Rows.subsPrefixSpec).pre6 enc Tryz.prog Tryz.f8 Rows.subsPrefixUptoRow.domain false) (((Rows.OpenSpec.upto Rows.subsPrefixSpec).at F).post enc Tryz.prog Tryz.f8 false true false false) := by
  refine returnsInHanded_of_cond_sized (C := Tryz.checked) (s := Rows.OpenSpec.upto Rows.subsPrefixSpec) (k := Rows.uptoSmall) rfl ownNone started (by kernel_rfl) Tryz.func8
    (OpenSpec.witness (enc := enc) (C := Tryz.checked) (s := Rows.OpenSpec.upto Rows.subsPrefixSpec) (k := Rows.uptoSmall) rfl false ⟨#[], #[.string ByteArray.empty, .agg #[.int .i64 0, .int .i64 0, .string ByteArray.empty, .string ByteArray.empty, .bool false, .int .u64 0, .slice none 0 0, .slice none 0 0], .string ByteArray.empty], []⟩ 8 (by kernel_rfl) (by kernel_rfl) (by kernel_rfl)
      (x := ([.lit (.string []), .agg [.lit (.int .i64 0), .agg [.lit (.int .i64 0), .lit (.string []), .lit (.string []), .lit (.bool false)], .lit (.int .u64 0), .nil, .nil], .lit (.string [])], [], [])) (by kernel_rfl) rfl (by kernel_rfl)) ?_
  intro W base args ds gs before hval0 hW _ hk hwt _
  have hval : ∀ (j : Nat) t v, Tryz.f8.params[j]? = some t → args[j]? = some v → Value.okWide Tryz.prog W .any base t v := hval0
  have hW' := hW
  obtain ⟨p, q, hA0, hV, rfl, hfz, hnd⟩ := hW
  have hA : DataW.TrodAll enc Tryz.prog W 0 (fun _ => true) true Tryz.f8.params.toList args.toList ds p := hA0
  have hA1 := hA
  rw [Tryz.params8] at hA hval
  obtain ⟨v0, vs0, d0, ds0, p0, q0, hargs, rfl, rfl, h0, r0⟩ := trodAll_cons hA
  obtain ⟨v1, vs1, d1, ds1, p1, q1, rfl, rfl, rfl, h1, r1⟩ := trodAll_cons r0
  obtain ⟨v2, vs2, d2, ds2, p2, q2, rfl, rfl, rfl, h2, r2⟩ := trodAll_cons r1
  obtain ⟨rfl, rfl, rfl⟩ := trodAll_nil r2
  obtain rfl : args = #[v0, v1, v2] := by cases args; simp_all
  obtain ⟨rfl, rfl⟩ := trodVars_none hV
  clear hA0 hval0 hargs
  obtain ⟨a0, rfl, rfl, rfl, hr0⟩ := open_string Tryz.underlying9 (hval 0 9 v0 rfl rfl) h0
  have w1 : WOk Tryz.prog 71 d1 := weightsEach_at hwt 1 _ _ (by kernel_rfl) rfl
  obtain ⟨fuel1, f1⟩ := h1
  obtain ⟨x1, hc1, hr1', hb1⟩ := act27_of_trod f1 w1
  have hr1 : A27 W (Lt W.heap.size) x1 ∧ x1.es.length * 3 + x1.gs.length ≤ 1048576 := ⟨hr1', by
      have hB : Rows.uptoBulkAll _ ≤ 1048576 := of_decide_eq_true hk
      simp only [Rows.uptoBulkAll, List.append_nil, List.cons_append, List.nil_append] at hB
      have hb' : _ ≤ Rows.uptoBulk d1 := hb1
      omega⟩
  obtain ⟨cs1, rfl, -⟩ := okWide_struct Tryz.underlying71 (hval 1 71 v1 rfl rfl)
  have e1 : Value.agg cs1 = x1.v := congrArg Value.agg (Array.toList_inj.1 (by simpa only [Value.cells] using hc1))
  rw [e1] at hA1 hW' ⊢
  obtain ⟨a2, rfl, rfl, rfl, hr2⟩ := open_string Tryz.underlying9 (hval 2 9 v2 rfl rfl) h2
  refine (subsprefix_w a0 x1 a2 W hr0 hr1 hr2).mono fun e W' ⟨he, hg⟩ => ?_
  subst he
  have hB : Below W.heap.size W W' := hg
  have hlt := DataW.Whole.lt hW'
  exact ⟨_, rfl, post_of_below (pv := []) hW' (fun _ _ _ => (trodAll_cons_mk (shut_bool Tryz.underlying4 _) trodAll_mk0)) (fun sp hsp => trodAll_stays subsPrefix_k1 hB sp subsPrefix_reads hA1 (fun z hz => hlt z (by simpa using hz)) (fun z hz => hsp z (by simpa using hz))) (fun _ _ => rfl) rfl
    hB (ok_one (by kernel_rfl) rfl (okWide_bool_mk Tryz.underlying4 _))⟩
theorem subsPrefix_holds : Rows.subsPrefixUptoRow.holds Tryz.pinned (Rows.OpenSpec.upto Rows.subsPrefixSpec) :=
  OpenClaim.holds_of_cond 8 Tryz.f8 rfl rfl rfl rfl rfl rfl rfl ⟨rfl, rfl, rfl, rfl, rfl⟩ rfl rfl rfl rfl rfl (by kernel_rfl) Tryz.func8 subsPrefix_join
    (of_decide_eq_true (by kernel_rfl)) (by unfold Func.isWrapper; first | (rw [if_pos (by decide +kernel)]; kernel_rfl) | (rw [if_neg (by decide +kernel)]; exact ⟨rfl, rfl⟩))
    (fun os started H enc _ F => subsPrefix_lifted os started H enc F)
theorem subsPrefix_upto : Rows.SubsPrefixUptoSaid := subsPrefix_holds
#print axioms subsPrefix_upto
end Go.Proofs.YtohajcflklejjaaGreat
