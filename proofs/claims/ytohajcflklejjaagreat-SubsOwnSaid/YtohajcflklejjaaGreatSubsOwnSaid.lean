/- The statement SubsOwn: whatever the input, the law answers true, and the input reads as it did; no condition. -/
import Derived.Test.YtohajcflklejjaaGreatPqFacts
import Derived.Test.YtohajcflklejjaaGreatPr
namespace Go.Proofs.YtohajcflklejjaaGreat
open Go.ChangeShapes Go.WideShapes Go.ChangeAt Go.RowKit
set_option linter.unusedVariables false
set_option linter.unusedSimpArgs false
set_option maxRecDepth 100000
theorem subsOwn_k0 : (Rows.subsOwnRow.wf (OpenSpec.ofChange Rows.subsOwnSpec)) = true := by kernel_rfl
theorem subsOwn_k1 : (laidOutB Tryz.prog) = true := by kernel_rfl
theorem subsOwn_k2 : (mapsRowed Tryz.prog) = true := by kernel_rfl
theorem subsOwn_k3 : (Tryz.f4.params.all (Tryz.prog.readableRec ·)) = true := by kernel_rfl
theorem subsOwn_k4 : (namedTie Tryz.prog Rows.subsOwnRow.named Rows.subsOwnSpec.vars) = true := by kernel_rfl
theorem subsOwn_k5 : ((Rows.subsOwnRow.stops == [])) = true := by kernel_rfl
theorem subsOwn_k6 : ((Tryz.prog.stops == [])) = true := by kernel_rfl
theorem subsOwn_k7 : ((Rows.subsOwnRow.knobs == [])) = true := by kernel_rfl
theorem subsOwn_k8 : ((Tryz.prog.stopKnobs == [])) = true := by kernel_rfl
theorem subsOwn_k9 : ((Rows.subsOwnRow.inPlace == Tryz.prog.inPlace 4)) = true := by kernel_rfl
theorem subsOwn_k10 : ((Rows.subsOwnRow.unfollowed == Tryz.prog.unfollowed 4)) = true := by kernel_rfl
theorem subsOwn_k11 : ((Rows.subsOwnRow.recurses == Tryz.prog.recurses 4)) = true := by kernel_rfl
theorem subsOwn_k12 : ((Rows.subsOwnRow.named == Tryz.prog.varsNamed 4)) = true := by kernel_rfl
theorem subsOwn_k13 : ((Rows.subsOwnRow.maps == (Tryz.f4.params.toList ++ Rows.subsOwnSpec.plain.varTypes Tryz.prog).any (Tryz.prog.mapsRec ·))) = true := by kernel_rfl
theorem subsOwn_k14 : ((Rows.subsOwnRow.ifaces == (Tryz.f4.params.toList ++ Rows.subsOwnSpec.plain.varTypes Tryz.prog).any (Tryz.prog.ifacesRec ·))) = true := by kernel_rfl
theorem subsOwn_k15 : ((Rows.subsOwnRow.mapsOut == Tryz.prog.mapsAmong Tryz.f4.resultTypes.toList)) = true := by kernel_rfl
theorem subsOwn_k16 : ((Rows.subsOwnRow.loops == (Tryz.f4.params.toList ++ Rows.subsOwnSpec.plain.varTypes Tryz.prog).any (Tryz.prog.loopsFrom ·))) = true := by kernel_rfl
theorem subsOwn_k17 : ((Rows.subsOwnRow.wideKeys == (Tryz.f4.params.toList ++ Rows.subsOwnSpec.plain.varTypes Tryz.prog ++ Tryz.f4.resultTypes.toList).any (Tryz.prog.wideKeysFrom ·))) = true := by kernel_rfl
theorem subsOwn_k18 : (Rows.subsOwnSpec.vars.all (Tryz.prog.varReadable ·)) = true := by kernel_rfl
theorem subsOwn_k19 : (Tryz.f4.resultTypes.all (fun t => Tryz.prog.readableRec t && decide (t < Tryz.prog.types.size))) = true := by kernel_rfl
theorem subsOwn_k20 : ((Rows.subsOwnRow.ifacesOut == Tryz.f4.resultTypes.toList.any (Tryz.prog.ifacesRec ·))) = true := by kernel_rfl
theorem subsOwn_k21 : ((Rows.subsOwnRow.loopsOut == Tryz.f4.resultTypes.toList.any (Tryz.prog.loopsFrom ·))) = true := by kernel_rfl
theorem subsOwn_k22 : ((Rows.subsOwnRow.plainKeys == Tryz.prog.plainKeys)) = true := by kernel_rfl
theorem subsOwn_k23 : (Rows.subsOwnRow.shortTexts.isNone) = true := by kernel_rfl
theorem subsOwn_k24 : (Tryz.prog.stopsHeard) = true := by kernel_rfl
theorem subsOwn_k25 : (Tryz.prog.mayEnter) = true := mayEnter_of Tryz.prog (behindMainWord (wordsSigns initSigns)) (congrArg (fun l => behindMainWord (wordsSigns l)) initL) initStrip1 initStrip2 initLays initReflect initDoors
theorem subsOwn_k26 : ((Rows.subsOwnRow.lifted == Tryz.prog.liftsFinal)) = true := beq_of (liftsFinal_of Tryz.prog (behindMainWord (wordsSigns initSigns)) (congrArg (fun l => behindMainWord (wordsSigns l)) initL) initStrip1 initHead)
theorem subsOwn_k27 : ((Tryz.prog.make == some Rows.subsOwnRow.make)) = true := by rw [make_of Tryz.prog (behindMainWord (wordsSigns initSigns)) (congrArg (fun l => behindMainWord (wordsSigns l)) initL) initHead]; rfl
theorem subsOwn_k28 : ((Rows.subsOwnRow.kinds == [])) = true := by kernel_rfl
theorem subsOwn_k29 : ((Rows.subsOwnRow.pinned == Rows.subsOwnRow.pinnedBy)) = true := by kernel_rfl
theorem subsOwn_k30 : ((Rows.subsOwnRow.veiled == (Tryz.f4.params.toList ++ Rows.subsOwnSpec.plain.varTypes Tryz.prog ++ Tryz.f4.resultTypes.toList).any (Tryz.prog.veiledRec ·))) = true := by kernel_rfl
theorem subsOwn_k31 : (Rows.subsOwnRow.veiledFits Tryz.prog Tryz.f4.params.toList (Tryz.f4.params.toList ++ Rows.subsOwnSpec.plain.varTypes Tryz.prog ++ Tryz.f4.resultTypes.toList)) = true := by kernel_rfl
theorem subsOwn_dom : (Rows.subsOwnRow.domain.isEmpty) = true := by kernel_rfl
theorem subsOwn_join : joinedFacts Tryz.prog 4 Tryz.f4 Rows.subsOwnSpec Rows.subsOwnRow = true :=
  join_of subsOwn_dom subsOwn_k0 subsOwn_k1 subsOwn_k2 subsOwn_k3 subsOwn_k4 subsOwn_k5 subsOwn_k6 subsOwn_k7 subsOwn_k8 subsOwn_k9 subsOwn_k10 subsOwn_k11 subsOwn_k12 subsOwn_k13 subsOwn_k14 subsOwn_k15 subsOwn_k16 subsOwn_k17 subsOwn_k18 subsOwn_k19 subsOwn_k20 subsOwn_k21 subsOwn_k22 subsOwn_k23 subsOwn_k24 subsOwn_k25 subsOwn_k26 subsOwn_k27 subsOwn_k28 subsOwn_k29 subsOwn_k30 subsOwn_k31
theorem subsOwn_lifted (os : Os) (started : os.Started) (H : Type) (enc : TypeId × Value → H) :
    ReturnsInHanded {} Tryz.checked os 4 .any (Rows.subsOwnSpec.pre6 enc Tryz.prog Tryz.f4 Rows.subsOwnRow.domain false) (Rows.subsOwnSpec.post enc Tryz.prog Tryz.f4 false true false false) := by
  refine returnsInHanded_of_change (C := Tryz.checked) ownNone started (by kernel_rfl) Tryz.func4
    (ChangeSpec.witness6 (enc := enc) (C := Tryz.checked) false ⟨#[], #[.int .i64 0], []⟩ 8 (by kernel_rfl) (by kernel_rfl) (by kernel_rfl) (by kernel_rfl)) ?_
  intro W base args ds gs before hval0 hW hcnd _
  have hval : ∀ (j : Nat) t v, Tryz.f4.params[j]? = some t → args[j]? = some v → Value.okWide Tryz.prog W .any base t v := hval0
  have hW' := hW
  obtain ⟨p, q, hA0, hV, rfl, hfz, hnd⟩ := hW
  have hA : DataW.TrodAll enc Tryz.prog W 0 (fun _ => true) true Tryz.f4.params.toList args.toList ds p := hA0
  rw [Tryz.params4] at hA hval
  obtain ⟨v0, vs0, d0, ds0, p0, q0, hargs, rfl, rfl, h0, r0⟩ := trodAll_cons hA
  obtain ⟨rfl, rfl, rfl⟩ := trodAll_nil r0
  obtain rfl : args = #[v0] := by cases args; simp_all
  obtain ⟨rfl, rfl⟩ := trodVars_none hV
  obtain ⟨a0, rfl, rfl, rfl, w0⟩ := open_int Tryz.underlying2 (hval 0 2 v0 rfl rfl) h0
  clear hA0 hval0
  simp only [List.append_nil] at hW'
  refine (subsown_w a0 w0 W).mono fun e W' ⟨he, hg⟩ => ?_
  subst he
  exact ⟨_, rfl, post_of_below (pa := []) (pv := []) hW' (fun _ _ _ => (trodAll_cons_mk (shut_bool Tryz.underlying4 _) trodAll_mk0)) (fun sp _ => (trodAll_cons_mk (shut_int Tryz.underlying2 w0) trodAll_mk0)) (fun _ _ => rfl) rfl
    hg (ok_one (by kernel_rfl) rfl (okWide_bool_mk Tryz.underlying4 _))⟩

theorem subsOwn_holds : Rows.subsOwnRow.holds Tryz.pinned (OpenSpec.ofChange Rows.subsOwnSpec) :=
  OpenClaim.holds_of_wide 4 Tryz.f4 rfl rfl rfl rfl rfl rfl rfl ⟨rfl, rfl, rfl, rfl, rfl⟩ rfl rfl rfl rfl rfl (by kernel_rfl) Tryz.func4 subsOwn_join
    (of_decide_eq_true (by kernel_rfl)) (by unfold Func.isWrapper; first | (rw [if_pos (by decide +kernel)]; kernel_rfl) | (rw [if_neg (by decide +kernel)]; exact ⟨rfl, rfl⟩))
    (fun os started H enc _ => subsOwn_lifted os started H enc)
theorem subsOwn_said : Rows.SubsOwnSaid := subsOwn_holds
#print axioms subsOwn_said
end Go.Proofs.YtohajcflklejjaaGreat
