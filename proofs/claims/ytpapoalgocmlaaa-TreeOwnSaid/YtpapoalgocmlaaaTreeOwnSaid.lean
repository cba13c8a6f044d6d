/- The statement TreeOwn: whatever the input, the law answers true, and the input reads as it did; no condition. -/
import Derived.Test.YtpapoalgocmlaaaFacts
import Derived.Test.YtpapoalgocmlaaaTreeOwn
import Derived.WalkKit
import Derived.ProofKit
import Derived.OpenShut
import Derived.ShutString
namespace Go.Proofs.Ytpapoalgocmlaaa
open Go.ChangeShapes Go.WideShapes Go.ChangeAt Go.RowKit
set_option linter.unusedVariables false
set_option linter.unusedSimpArgs false
set_option maxRecDepth 100000
open Go.ChangeMaps (open_string shut_string)
theorem treeOwn_k0 : (Rows.treeOwnRow.wf (OpenSpec.ofChange Rows.treeOwnSpec)) = true := by kernel_rfl
theorem treeOwn_k1 : (laidOutB Try.prog) = true := by kernel_rfl
theorem treeOwn_k2 : (mapsRowed Try.prog) = true := by kernel_rfl
theorem treeOwn_k3 : (Try.f5.params.all (Try.prog.readableRec ·)) = true := by kernel_rfl
theorem treeOwn_k4 : (namedTie Try.prog Rows.treeOwnRow.named Rows.treeOwnSpec.vars) = true := by kernel_rfl
theorem treeOwn_k5 : ((Rows.treeOwnRow.stops == [])) = true := by kernel_rfl
theorem treeOwn_k6 : ((Try.prog.stops == [])) = true := by kernel_rfl
theorem treeOwn_k7 : ((Rows.treeOwnRow.knobs == [])) = true := by kernel_rfl
theorem treeOwn_k8 : ((Try.prog.stopKnobs == [])) = true := by kernel_rfl
theorem treeOwn_k9 : ((Rows.treeOwnRow.inPlace == Try.prog.inPlace 5)) = true := by kernel_rfl
theorem treeOwn_k10 : ((Rows.treeOwnRow.unfollowed == Try.prog.unfollowed 5)) = true := by kernel_rfl
theorem treeOwn_k11 : ((Rows.treeOwnRow.recurses == Try.prog.recurses 5)) = true := by kernel_rfl
theorem treeOwn_k12 : ((Rows.treeOwnRow.named == Try.prog.varsNamed 5)) = true := by kernel_rfl
theorem treeOwn_k13 : ((Rows.treeOwnRow.maps == (Try.f5.params.toList ++ Rows.treeOwnSpec.plain.varTypes Try.prog).any (Try.prog.mapsRec ·))) = true := by kernel_rfl
theorem treeOwn_k14 : ((Rows.treeOwnRow.ifaces == (Try.f5.params.toList ++ Rows.treeOwnSpec.plain.varTypes Try.prog).any (Try.prog.ifacesRec ·))) = true := by kernel_rfl
theorem treeOwn_k15 : ((Rows.treeOwnRow.mapsOut == Try.prog.mapsAmong Try.f5.resultTypes.toList)) = true := by kernel_rfl
theorem treeOwn_k16 : ((Rows.treeOwnRow.loops == (Try.f5.params.toList ++ Rows.treeOwnSpec.plain.varTypes Try.prog).any (Try.prog.loopsFrom ·))) = true := by kernel_rfl
theorem treeOwn_k17 : ((Rows.treeOwnRow.wideKeys == (Try.f5.params.toList ++ Rows.treeOwnSpec.plain.varTypes Try.prog ++ Try.f5.resultTypes.toList).any (Try.prog.wideKeysFrom ·))) = true := by kernel_rfl
theorem treeOwn_k18 : (Rows.treeOwnSpec.vars.all (Try.prog.varReadable ·)) = true := by kernel_rfl
theorem treeOwn_k19 : (Try.f5.resultTypes.all (fun t => Try.prog.readableRec t && decide (t < Try.prog.types.size))) = true := by kernel_rfl
theorem treeOwn_k20 : ((Rows.treeOwnRow.ifacesOut == Try.f5.resultTypes.toList.any (Try.prog.ifacesRec ·))) = true := by kernel_rfl
theorem treeOwn_k21 : ((Rows.treeOwnRow.loopsOut == Try.f5.resultTypes.toList.any (Try.prog.loopsFrom ·))) = true := by kernel_rfl
theorem treeOwn_k22 : ((Rows.treeOwnRow.plainKeys == Try.prog.plainKeys)) = true := by kernel_rfl
theorem treeOwn_k23 : (Rows.treeOwnRow.shortTexts.isNone) = true := by kernel_rfl
theorem treeOwn_k24 : (Try.prog.stopsHeard) = true := by kernel_rfl
theorem treeOwn_k25 : (Try.prog.mayEnter) = true := mayEnter_of Try.prog (behindMainWord (wordsSigns initSigns)) (congrArg (fun l => behindMainWord (wordsSigns l)) initL) initStrip1 initStrip2 initLays initReflect initDoors
theorem treeOwn_k26 : ((Rows.treeOwnRow.lifted == Try.prog.liftsFinal)) = true := beq_of (liftsFinal_of Try.prog (behindMainWord (wordsSigns initSigns)) (congrArg (fun l => behindMainWord (wordsSigns l)) initL) initStrip1 initHead)
theorem treeOwn_k27 : ((Try.prog.make == some Rows.treeOwnRow.make)) = true := by rw [make_of Try.prog (behindMainWord (wordsSigns initSigns)) (congrArg (fun l => behindMainWord (wordsSigns l)) initL) initHead]; rfl
theorem treeOwn_k28 : ((Rows.treeOwnRow.kinds == [])) = true := by kernel_rfl
theorem treeOwn_k29 : ((Rows.treeOwnRow.pinned == Rows.treeOwnRow.pinnedBy)) = true := by kernel_rfl
theorem treeOwn_k30 : ((Rows.treeOwnRow.veiled == (Try.f5.params.toList ++ Rows.treeOwnSpec.plain.varTypes Try.prog ++ Try.f5.resultTypes.toList).any (Try.prog.veiledRec ·))) = true := by kernel_rfl
theorem treeOwn_k31 : (Rows.treeOwnRow.veiledFits Try.prog Try.f5.params.toList (Try.f5.params.toList ++ Rows.treeOwnSpec.plain.varTypes Try.prog ++ Try.f5.resultTypes.toList)) = true := by kernel_rfl
theorem treeOwn_dom : (Rows.treeOwnRow.domain.isEmpty) = true := by kernel_rfl
theorem treeOwn_join : joinedFacts Try.prog 5 Try.f5 Rows.treeOwnSpec Rows.treeOwnRow = true :=
  join_of treeOwn_dom treeOwn_k0 treeOwn_k1 treeOwn_k2 treeOwn_k3 treeOwn_k4 treeOwn_k5 treeOwn_k6 treeOwn_k7 treeOwn_k8 treeOwn_k9 treeOwn_k10 treeOwn_k11 treeOwn_k12 treeOwn_k13 treeOwn_k14 treeOwn_k15 treeOwn_k16 treeOwn_k17 treeOwn_k18 treeOwn_k19 treeOwn_k20 treeOwn_k21 treeOwn_k22 treeOwn_k23 treeOwn_k24 treeOwn_k25 treeOwn_k26 treeOwn_k27 treeOwn_k28 treeOwn_k29 treeOwn_k30 treeOwn_k31
theorem treeOwn_lifted (os : Os) (started : os.Started) (H : Type) (enc : TypeId × Value → H) :
    ReturnsInHanded {} Try.checked os 5 .any (Rows.treeOwnSpec.pre6 enc Try.prog Try.f5 Rows.treeOwnRow.domain false) (Rows.treeOwnSpec.post enc Try.prog Try.f5 false true false false) := by
  refine returnsInHanded_of_change (C := Try.checked) ownNone started (by kernel_rfl) Try.func5
    (ChangeSpec.witness6 (enc := enc) (C := Try.checked) false ⟨#[], #[.string ByteArray.empty, .int .i64 0], []⟩ 8 (by kernel_rfl) (by kernel_rfl) (by kernel_rfl) (by kernel_rfl)) ?_
  intro W base args ds gs before hval0 hW hcnd _
  have hval : ∀ (j : Nat) t v, Try.f5.params[j]? = some t → args[j]? = some v → Value.okWide Try.prog W .any base t v := hval0
  have hW' := hW
  obtain ⟨p, q, hA0, hV, rfl, hfz, hnd⟩ := hW
  have hA : DataW.TrodAll enc Try.prog W 0 (fun _ => true) true Try.f5.params.toList args.toList ds p := hA0
  rw [Try.params5] at hA hval
  obtain ⟨v0, vs0, d0, ds0, p0, q0, hargs, rfl, rfl, h0, r0⟩ := trodAll_cons hA
  obtain ⟨v1, vs1, d1, ds1, p1, q1, rfl, rfl, rfl, h1, r1⟩ := trodAll_cons r0
  obtain ⟨rfl, rfl, rfl⟩ := trodAll_nil r1
  obtain rfl : args = #[v0, v1] := by cases args; simp_all
  obtain ⟨rfl, rfl⟩ := trodVars_none hV
  obtain ⟨a0, rfl, rfl, rfl, w0⟩ := open_string Try.underlying9 (hval 0 9 v0 rfl rfl) h0
  obtain ⟨a1, rfl, rfl, rfl, w1⟩ := open_int Try.underlying2 (hval 1 2 v1 rfl rfl) h1
  clear hA0 hval0
  simp only [List.append_nil] at hW'
  refine (treeown_w a0 a1 w0 w1 W).mono fun e W' ⟨he, hg⟩ => ?_
  subst he
  exact ⟨_, rfl, post_of_below (pa := []) (pv := []) hW' (fun _ _ _ => (trodAll_cons_mk (shut_bool Try.underlying4 _) trodAll_mk0)) (fun sp _ => (trodAll_cons_mk (shut_string Try.underlying9 w0) (trodAll_cons_mk (shut_int Try.underlying2 w1) trodAll_mk0))) (fun _ _ => rfl) rfl
    hg.below (ok_one (by kernel_rfl) rfl (okWide_bool_mk Try.underlying4 _))⟩

theorem treeOwn_holds : Rows.treeOwnRow.holds Try.pinned (OpenSpec.ofChange Rows.treeOwnSpec) :=
  OpenClaim.holds_of_wide 5 Try.f5 rfl rfl rfl rfl rfl rfl rfl ⟨rfl, rfl, rfl, rfl, rfl⟩ rfl rfl rfl rfl rfl (by kernel_rfl) Try.func5 treeOwn_join
    (of_decide_eq_true (by kernel_rfl)) (by unfold Func.isWrapper; first | (rw [if_pos (by decide +kernel)]; kernel_rfl) | (rw [if_neg (by decide +kernel)]; exact ⟨rfl, rfl⟩))
    (fun os started H enc _ => treeOwn_lifted os started H enc)
theorem treeOwn_said : Rows.TreeOwnSaid := treeOwn_holds
#print axioms treeOwn_said
end Go.Proofs.Ytpapoalgocmlaaa
