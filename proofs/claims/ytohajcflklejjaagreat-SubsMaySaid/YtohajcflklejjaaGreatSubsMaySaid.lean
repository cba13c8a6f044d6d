/- The statement SubsMay: whatever the input, the law answers true, and the input reads as it did; no condition. -/
import Derived.Test.YtohajcflklejjaaGreatPqFacts
import Derived.Test.YtohajcflklejjaaGreatPqa
import Derived.Test.YtohajcflklejjaaGreatPqb
import Derived.Test.YtohajcflklejjaaGreatPqc
import Derived.Test.YtohajcflklejjaaGreatPqd
import Derived.Test.YtohajcflklejjaaGreatPqe
import Derived.Test.YtohajcflklejjaaGreatPqf
import Derived.Test.YtohajcflklejjaaGreatPqg
import Derived.Test.YtohajcflklejjaaGreatPqh
import Derived.Test.YtohajcflklejjaaGreatPqi
import Derived.ShutString
namespace Go.Proofs.YtohajcflklejjaaGreat
open Go.ChangeShapes Go.WideShapes Go.ChangeAt Go.RowKit
set_option linter.unusedVariables false
set_option linter.unusedSimpArgs false
set_option linter.unnecessarySimpa false
set_option maxRecDepth 100000
open Go.ChangeMaps (open_string shut_string)
theorem subsMay_k0 : (Rows.subsMayRow.wf (OpenSpec.ofChange Rows.subsMaySpec)) = true := by kernel_rfl
theorem subsMay_k1 : (laidOutB Tryz.prog) = true := by kernel_rfl
theorem subsMay_k2 : (mapsRowed Tryz.prog) = true := by kernel_rfl
theorem subsMay_k3 : (Tryz.f3.params.all (Tryz.prog.readableRec ·)) = true := by kernel_rfl
theorem subsMay_k4 : (namedTie Tryz.prog Rows.subsMayRow.named Rows.subsMaySpec.vars) = true := by kernel_rfl
theorem subsMay_k5 : ((Rows.subsMayRow.stops == [])) = true := by kernel_rfl
theorem subsMay_k6 : ((Tryz.prog.stops == [])) = true := by kernel_rfl
theorem subsMay_k7 : ((Rows.subsMayRow.knobs == [])) = true := by kernel_rfl
theorem subsMay_k8 : ((Tryz.prog.stopKnobs == [])) = true := by kernel_rfl
theorem subsMay_k9 : ((Rows.subsMayRow.inPlace == Tryz.prog.inPlace 3)) = true := by kernel_rfl
theorem subsMay_k10 : ((Rows.subsMayRow.unfollowed == Tryz.prog.unfollowed 3)) = true := by kernel_rfl
theorem subsMay_k11 : ((Rows.subsMayRow.recurses == Tryz.prog.recurses 3)) = true := by kernel_rfl
theorem subsMay_k12 : ((Rows.subsMayRow.named == Tryz.prog.varsNamed 3)) = true := by kernel_rfl
theorem subsMay_k13 : ((Rows.subsMayRow.maps == (Tryz.f3.params.toList ++ Rows.subsMaySpec.plain.varTypes Tryz.prog).any (Tryz.prog.mapsRec ·))) = true := by kernel_rfl
theorem subsMay_k14 : ((Rows.subsMayRow.ifaces == (Tryz.f3.params.toList ++ Rows.subsMaySpec.plain.varTypes Tryz.prog).any (Tryz.prog.ifacesRec ·))) = true := by kernel_rfl
theorem subsMay_k15 : ((Rows.subsMayRow.mapsOut == Tryz.prog.mapsAmong Tryz.f3.resultTypes.toList)) = true := by kernel_rfl
theorem subsMay_k16 : ((Rows.subsMayRow.loops == (Tryz.f3.params.toList ++ Rows.subsMaySpec.plain.varTypes Tryz.prog).any (Tryz.prog.loopsFrom ·))) = true := by kernel_rfl
theorem subsMay_k17 : ((Rows.subsMayRow.wideKeys == (Tryz.f3.params.toList ++ Rows.subsMaySpec.plain.varTypes Tryz.prog ++ Tryz.f3.resultTypes.toList).any (Tryz.prog.wideKeysFrom ·))) = true := by kernel_rfl
theorem subsMay_k18 : (Rows.subsMaySpec.vars.all (Tryz.prog.varReadable ·)) = true := by kernel_rfl
theorem subsMay_k19 : (Tryz.f3.resultTypes.all (fun t => Tryz.prog.readableRec t && decide (t < Tryz.prog.types.size))) = true := by kernel_rfl
theorem subsMay_k20 : ((Rows.subsMayRow.ifacesOut == Tryz.f3.resultTypes.toList.any (Tryz.prog.ifacesRec ·))) = true := by kernel_rfl
theorem subsMay_k21 : ((Rows.subsMayRow.loopsOut == Tryz.f3.resultTypes.toList.any (Tryz.prog.loopsFrom ·))) = true := by kernel_rfl
theorem subsMay_k22 : ((Rows.subsMayRow.plainKeys == Tryz.prog.plainKeys)) = true := by kernel_rfl
theorem subsMay_k23 : (Rows.subsMayRow.shortTexts.isNone) = true := by kernel_rfl
theorem subsMay_k24 : (Tryz.prog.stopsHeard) = true := by kernel_rfl
theorem subsMay_k25 : (Tryz.prog.mayEnter) = true := mayEnter_of Tryz.prog (behindMainWord (wordsSigns initSigns)) (congrArg (fun l => behindMainWord (wordsSigns l)) initL) initStrip1 initStrip2 initLays initReflect initDoors
theorem subsMay_k26 : ((Rows.subsMayRow.lifted == Tryz.prog.liftsFinal)) = true := beq_of (liftsFinal_of Tryz.prog (behindMainWord (wordsSigns initSigns)) (congrArg (fun l => behindMainWord (wordsSigns l)) initL) initStrip1 initHead)
theorem subsMay_k27 : ((Tryz.prog.make == some Rows.subsMayRow.make)) = true := by rw [make_of Tryz.prog (behindMainWord (wordsSigns initSigns)) (congrArg (fun l => behindMainWord (wordsSigns l)) initL) initHead]; rfl
theorem subsMay_k28 : ((Rows.subsMayRow.kinds == [])) = true := by kernel_rfl
theorem subsMay_k29 : ((Rows.subsMayRow.pinned == Rows.subsMayRow.pinnedBy)) = true := by kernel_rfl
theorem subsMay_k30 : ((Rows.subsMayRow.veiled == (Tryz.f3.params.toList ++ Rows.subsMaySpec.plain.varTypes Tryz.prog ++ Tryz.f3.resultTypes.toList).any (Tryz.prog.veiledRec ·))) = true := by kernel_rfl
theorem subsMay_k31 : (Rows.subsMayRow.veiledFits Tryz.prog Tryz.f3.params.toList (Tryz.f3.params.toList ++ Rows.subsMaySpec.plain.varTypes Tryz.prog ++ Tryz.f3.resultTypes.toList)) = true := by kernel_rfl
theorem subsMay_dom : (Rows.subsMayRow.domain.isEmpty) = true := by kernel_rfl
theorem subsMay_join : joinedFacts Tryz.prog 3 Tryz.f3 Rows.subsMaySpec Rows.subsMayRow = true :=
  join_of subsMay_dom subsMay_k0 subsMay_k1 subsMay_k2 subsMay_k3 subsMay_k4 subsMay_k5 subsMay_k6 subsMay_k7 subsMay_k8 subsMay_k9 subsMay_k10 subsMay_k11 subsMay_k12 subsMay_k13 subsMay_k14 subsMay_k15 subsMay_k16 subsMay_k17 subsMay_k18 subsMay_k19 subsMay_k20 subsMay_k21 subsMay_k22 subsMay_k23 subsMay_k24 subsMay_k25 subsMay_k26 subsMay_k27 subsMay_k28 subsMay_k29 subsMay_k30 subsMay_k31
theorem subsMay_reads : ∀ t ∈ Tryz.f3.params.toList, Tryz.prog.readableRec t = true ∧ t < Tryz.prog.types.size := by
  have h : (Tryz.f3.params.toList.all fun t => Tryz.prog.readableRec t && decide (t < Tryz.prog.types.size)) = true := by kernel_rfl
  intro t ht
  simpa using List.all_eq_true.1 h t ht
theorem subsMay_lifted (os : Os) (started : os.Started) (H : Type) (enc : TypeId × Value → H) :
    ReturnsInHanded {} Tryz.checked os 3 .any (Rows.subsMaySpec.pre6 enc Tryz.prog Tryz.f3 Rows.subsMayRow.domain false) (Rows.subsMaySpec.post enc Tryz.prog Tryz.f3 false true false false) := by
  refine returnsInHanded_w (C := Tryz.checked) ownNone started (by kernel_rfl) Tryz.func3
    (ChangeSpec.witness6 (enc := enc) (C := Tryz.checked) false ⟨#[], #[.agg #[.int .i64 0, .string ByteArray.empty, .string ByteArray.empty, .bool false], .string ByteArray.empty], []⟩ 8 (by kernel_rfl) (by kernel_rfl) (by kernel_rfl) (by kernel_rfl)) ?_
  intro W base args ds gs before hval0 hW hwt
  have hval : ∀ (j : Nat) t v, Tryz.f3.params[j]? = some t → args[j]? = some v → Value.okWide Tryz.prog W .any base t v := hval0
  have hW' := hW
  obtain ⟨p, q, hA0, hV, rfl, hfz, hnd⟩ := hW
  have hA : DataW.TrodAll enc Tryz.prog W 0 (fun _ => true) true Tryz.f3.params.toList args.toList ds p := hA0
  have hA1 := hA
  rw [Tryz.params3] at hA hval
  obtain ⟨v0, vs0, d0, ds0, p0, q0, hargs, rfl, rfl, h0, r0⟩ := trodAll_cons hA
  obtain ⟨v1, vs1, d1, ds1, p1, q1, rfl, rfl, rfl, h1, r1⟩ := trodAll_cons r0
  obtain ⟨rfl, rfl, rfl⟩ := trodAll_nil r1
  obtain rfl : args = #[v0, v1] := by cases args; simp_all
  obtain ⟨rfl, rfl⟩ := trodVars_none hV
  clear hA0 hval0 hargs
  have w0 : WOk Tryz.prog 24 d0 := weightsEach_at hwt 0 _ _ (by kernel_rfl) rfl
  obtain ⟨fuel0, f0⟩ := h0
  obtain ⟨x0, hc0, hr0⟩ := query_of_trod f0 w0
  obtain ⟨cs0, rfl, -⟩ := okWide_struct Tryz.underlying24 (hval 0 24 v0 rfl rfl)
  have e0 : Value.agg cs0 = x0.v := congrArg Value.agg (Array.toList_inj.1 (by simpa only [Value.cells] using hc0))
  rw [e0] at hA1 hW' ⊢
  obtain ⟨a1, rfl, rfl, rfl, hr1⟩ := open_string Tryz.underlying9 (hval 1 9 v1 rfl rfl) h1
  refine (subsmay_w x0 a1 W hr0 hr1).mono fun e W' ⟨he, hg⟩ => ?_
  subst he
  have hB : Below W.heap.size W W' := hg
  have hlt := DataW.Whole.lt hW'
  exact ⟨_, rfl, post_of_below (pv := []) hW' (fun _ _ _ => (trodAll_cons_mk (shut_bool Tryz.underlying4 _) trodAll_mk0)) (fun sp hsp => trodAll_stays subsMay_k1 hB sp subsMay_reads hA1 (fun z hz => hlt z (by simpa using hz)) (fun z hz => hsp z (by simpa using hz))) (fun _ _ => rfl) rfl
    hB (ok_one (by kernel_rfl) rfl (okWide_bool_mk Tryz.underlying4 _))⟩
theorem subsMay_holds : Rows.subsMayRow.holds Tryz.pinned (OpenSpec.ofChange Rows.subsMaySpec) :=
  OpenClaim.holds_of_wide 3 Tryz.f3 rfl rfl rfl rfl rfl rfl rfl ⟨rfl, rfl, rfl, rfl, rfl⟩ rfl rfl rfl rfl rfl (by kernel_rfl) Tryz.func3 subsMay_join
    (of_decide_eq_true (by kernel_rfl)) (by unfold Func.isWrapper; first | (rw [if_pos (by decide +kernel)]; kernel_rfl) | (rw [if_neg (by decide +kernel)]; exact ⟨rfl, rfl⟩))
    (fun os started H enc _ => subsMay_lifted os started H enc)
theorem subsMay_said : Rows.SubsMaySaid := subsMay_holds
#print axioms subsMay_said
end Go.Proofs.YtohajcflklejjaaGreat
