/- The statement TreeShares: whatever the input, the law answers true, and the input reads as it did; no condition. -/
import Derived.Test.YtpapoalgocmlaaaFacts
import Derived.Test.YtpapoalgocmlaaaMf
import Derived.Test.YtpapoalgocmlaaaShares
import Derived.ShutString
namespace Go.Proofs.Ytpapoalgocmlaaa
open Go.ChangeShapes Go.WideShapes Go.ChangeAt Go.RowKit
set_option linter.unusedVariables false
set_option linter.unusedSimpArgs false
set_option maxRecDepth 100000
open Go.ChangeMaps (open_string shut_string)
theorem treeShares_k0 : (Rows.treeSharesRow.wf (OpenSpec.ofChange Rows.treeSharesSpec)) = true := by kernel_rfl
theorem treeShares_k1 : (laidOutB Try.prog) = true := by kernel_rfl
theorem treeShares_k2 : (mapsRowed Try.prog) = true := by kernel_rfl
theorem treeShares_k3 : (Try.f18.params.all (Try.prog.readableRec ·)) = true := by kernel_rfl
theorem treeShares_k4 : (namedTie Try.prog Rows.treeSharesRow.named Rows.treeSharesSpec.vars) = true := by kernel_rfl
theorem treeShares_k5 : ((Rows.treeSharesRow.stops == [])) = true := by kernel_rfl
theorem treeShares_k6 : ((Try.prog.stops == [])) = true := by kernel_rfl
theorem treeShares_k7 : ((Rows.treeSharesRow.knobs == [])) = true := by kernel_rfl
theorem treeShares_k8 : ((Try.prog.stopKnobs == [])) = true := by kernel_rfl
theorem treeShares_k9 : ((Rows.treeSharesRow.inPlace == Try.prog.inPlace 18)) = true := by kernel_rfl
theorem treeShares_k10 : ((Rows.treeSharesRow.unfollowed == Try.prog.unfollowed 18)) = true := by kernel_rfl
theorem treeShares_k11 : ((Rows.treeSharesRow.recurses == Try.prog.recurses 18)) = true := by kernel_rfl
theorem treeShares_k12 : ((Rows.treeSharesRow.named == Try.prog.varsNamed 18)) = true := by kernel_rfl
theorem treeShares_k13 : ((Rows.treeSharesRow.maps == (Try.f18.params.toList ++ Rows.treeSharesSpec.plain.varTypes Try.prog).any (Try.prog.mapsRec ·))) = true := by kernel_rfl
theorem treeShares_k14 : ((Rows.treeSharesRow.ifaces == (Try.f18.params.toList ++ Rows.treeSharesSpec.plain.varTypes Try.prog).any (Try.prog.ifacesRec ·))) = true := by kernel_rfl
theorem treeShares_k15 : ((Rows.treeSharesRow.mapsOut == Try.prog.mapsAmong Try.f18.resultTypes.toList)) = true := by kernel_rfl
theorem treeShares_k16 : ((Rows.treeSharesRow.loops == (Try.f18.params.toList ++ Rows.treeSharesSpec.plain.varTypes Try.prog).any (Try.prog.loopsFrom ·))) = true := by kernel_rfl
theorem treeShares_k17 : ((Rows.treeSharesRow.wideKeys == (Try.f18.params.toList ++ Rows.treeSharesSpec.plain.varTypes Try.prog ++ Try.f18.resultTypes.toList).any (Try.prog.wideKeysFrom ·))) = true := by kernel_rfl
theorem treeShares_k18 : (Rows.treeSharesSpec.vars.all (Try.prog.varReadable ·)) = true := by kernel_rfl
theorem treeShares_k19 : (Try.f18.resultTypes.all (fun t => Try.prog.readableRec t && decide (t < Try.prog.types.size))) = true := by kernel_rfl
theorem treeShares_k20 : ((Rows.treeSharesRow.ifacesOut == Try.f18.resultTypes.toList.any (Try.prog.ifacesRec ·))) = true := by kernel_rfl
theorem treeShares_k21 : ((Rows.treeSharesRow.loopsOut == Try.f18.resultTypes.toList.any (Try.prog.loopsFrom ·))) = true := by kernel_rfl
theorem treeShares_k22 : ((Rows.treeSharesRow.plainKeys == Try.prog.plainKeys)) = true := by kernel_rfl
theorem treeShares_k23 : (Rows.treeSharesRow.shortTexts.isNone) = true := by kernel_rfl
theorem treeShares_k24 : (Try.prog.stopsHeard) = true := by kernel_rfl
theorem treeShares_k25 : (Try.prog.mayEnter) = true := mayEnter_of Try.prog (behindMainWord (wordsSigns initSigns)) (congrArg (fun l => behindMainWord (wordsSigns l)) initL) initStrip1 initStrip2 initLays initReflect initDoors
theorem treeShares_k26 : ((Rows.treeSharesRow.lifted == Try.prog.liftsFinal)) = true := beq_of (liftsFinal_of Try.prog (behindMainWord (wordsSigns initSigns)) (congrArg (fun l => behindMainWord (wordsSigns l)) initL) initStrip1 initHead)
theorem treeShares_k27 : ((Try.prog.make == some Rows.treeSharesRow.make)) = true := by rw [make_of Try.prog (behindMainWord (wordsSigns initSigns)) (congrArg (fun l => behindMainWord (wordsSigns l)) initL) initHead]; rfl
theorem treeShares_k28 : ((Rows.treeSharesRow.kinds == [])) = true := by kernel_rfl
theorem treeShares_k29 : ((Rows.treeSharesRow.pinned == Rows.treeSharesRow.pinnedBy)) = true := by kernel_rfl
theorem treeShares_k30 : ((Rows.treeSharesRow.veiled == (Try.f18.params.toList ++ Rows.treeSharesSpec.plain.varTypes Try.prog ++ Try.f18.resultTypes.toList).any (Try.prog.veiledRec ·))) = true := by kernel_rfl
theorem treeShares_k31 : (Rows.treeSharesRow.veiledFits Try.prog Try.f18.params.toList (Try.f18.params.toList ++ Rows.treeSharesSpec.plain.varTypes Try.prog ++ Try.f18.resultTypes.toList)) = true := by kernel_rfl
theorem treeShares_dom : (Rows.treeSharesRow.domain.isEmpty) = true := by kernel_rfl
theorem treeShares_join : joinedFacts Try.prog 18 Try.f18 Rows.treeSharesSpec Rows.treeSharesRow = true :=
  join_of treeShares_dom treeShares_k0 treeShares_k1 treeShares_k2 treeShares_k3 treeShares_k4 treeShares_k5 treeShares_k6 treeShares_k7 treeShares_k8 treeShares_k9 treeShares_k10 treeShares_k11 treeShares_k12 treeShares_k13 treeShares_k14 treeShares_k15 treeShares_k16 treeShares_k17 treeShares_k18 treeShares_k19 treeShares_k20 treeShares_k21 treeShares_k22 treeShares_k23 treeShares_k24 treeShares_k25 treeShares_k26 treeShares_k27 treeShares_k28 treeShares_k29 treeShares_k30 treeShares_k31
theorem treeShares_reads : ∀ t ∈ Try.f18.params.toList, Try.prog.readableRec t = true ∧ t < Try.prog.types.size := by
  have h : (Try.f18.params.toList.all fun t => Try.prog.readableRec t && decide (t < Try.prog.types.size)) = true := by kernel_rfl
  intro t ht
  simpa using List.all_eq_true.1 h t ht
theorem treeShares_lifted (os : Os) (started : os.Started) (H : Type) (enc : TypeId × Value → H) :
    ReturnsInHanded {} Try.checked os 18 .any (Rows.treeSharesSpec.pre6 enc Try.prog Try.f18 Rows.treeSharesRow.domain false) (Rows.treeSharesSpec.post enc Try.prog Try.f18 false true false false) := by
  refine returnsInHanded_w (C := Try.checked) ownNone started (by kernel_rfl) Try.func18
    (ChangeSpec.witness6 (enc := enc) (C := Try.checked) false ⟨#[], #[.slice none 0 0], []⟩ 8 (by kernel_rfl) (by kernel_rfl) (by kernel_rfl) (by kernel_rfl)) ?_
  intro W base args ds gs before hval0 hW hwt
  have hval : ∀ (j : Nat) t v, Try.f18.params[j]? = some t → args[j]? = some v → Value.okWide Try.prog W .any base t v := hval0
  have hW' := hW
  obtain ⟨p, q, hA0, hV, rfl, hfz, hnd⟩ := hW
  have hA : DataW.TrodAll enc Try.prog W 0 (fun _ => true) true Try.f18.params.toList args.toList ds p := hA0
  have hA1 := hA
  rw [Try.params18] at hA hval
  obtain ⟨v0, vs0, d0, ds0, p0, q0, hargs, rfl, rfl, h0, r0⟩ := trodAll_cons hA
  obtain ⟨rfl, rfl, rfl⟩ := trodAll_nil r0
  obtain rfl : args = #[v0] := by cases args; simp_all
  obtain ⟨rfl, rfl⟩ := trodVars_none hV
  clear hA0 hval0 hargs
  have w0 : WOk Try.prog 79 d0 := weightsEach_at hwt 0 _ _ (by kernel_rfl) rfl
  obtain ⟨fuel0, f0⟩ := h0
  obtain ⟨s0, xs0, hc0, hr0⟩ := acts_of_trod f0 w0
  obtain ⟨ad0, n0, c0, rfl⟩ := okWide_slice Try.underlying79 (hval 0 79 v0 rfl rfl)
  have e0 : Value.slice ad0 n0 c0 = .slice s0.a xs0.length s0.c := by simpa [Value.cells] using hc0
  rw [e0] at hA1 hW' ⊢
  refine (treeshares_w s0 xs0 W hr0).mono fun e W' ⟨he, hg⟩ => ?_
  subst he
  have hB : Below W.heap.size W W' := hg.below
  have hlt := DataW.Whole.lt hW'
  exact ⟨_, rfl, post_of_below (pv := []) hW' (fun _ _ _ => (trodAll_cons_mk (shut_bool Try.underlying4 _) trodAll_mk0)) (fun sp hsp => trodAll_stays treeShares_k1 hB sp treeShares_reads hA1 (fun z hz => hlt z (by simpa using hz)) (fun z hz => hsp z (by simpa using hz))) (fun _ _ => rfl) rfl
    hB (ok_one (by kernel_rfl) rfl (okWide_bool_mk Try.underlying4 _))⟩
theorem treeShares_holds : Rows.treeSharesRow.holds Try.pinned (OpenSpec.ofChange Rows.treeSharesSpec) :=
  OpenClaim.holds_of_wide 18 Try.f18 rfl rfl rfl rfl rfl rfl rfl ⟨rfl, rfl, rfl, rfl, rfl⟩ rfl rfl rfl rfl rfl (by kernel_rfl) Try.func18 treeShares_join
    (of_decide_eq_true (by kernel_rfl)) (by unfold Func.isWrapper; first | (rw [if_pos (by decide +kernel)]; kernel_rfl) | (rw [if_neg (by decide +kernel)]; exact ⟨rfl, rfl⟩))
    (fun os started H enc _ => treeShares_lifted os started H enc)
theorem treeShares_said : Rows.TreeSharesSaid := treeShares_holds
#print axioms treeShares_said
end Go.Proofs.Ytpapoalgocmlaaa
