/- The statement DiffNone: whatever the input, the law answers true, and the input reads as it did; no condition. -/
import Derived.Test.YtpapoalgocmlaaaPdFacts
import Derived.Test.YtpapoalgocmlaaaPda
import Derived.Test.YtpapoalgocmlaaaPdb
import Derived.Test.YtpapoalgocmlaaaPdc
import Derived.Test.YtpapoalgocmlaaaPdd
import Derived.Test.YtpapoalgocmlaaaPde
import Derived.Test.YtpapoalgocmlaaaPdf
import Derived.Test.YtpapoalgocmlaaaPdg
import Derived.Test.YtpapoalgocmlaaaPdh
import Derived.Test.YtpapoalgocmlaaaPdi
import Derived.Test.YtpapoalgocmlaaaPdj
import Derived.Test.YtpapoalgocmlaaaPdk
import Derived.Test.YtpapoalgocmlaaaPdl
import Derived.ShutString
namespace Go.Proofs.Ytpapoalgocmlaaa
open Go.ChangeShapes Go.WideShapes Go.ChangeAt Go.RowKit
set_option linter.unusedVariables false
set_option linter.unusedSimpArgs false
set_option linter.unnecessarySimpa false
set_option maxRecDepth 100000
open Go.ChangeMaps (open_string shut_string)
theorem diffNone_k0 : (Rows.diffNoneRow.wf (OpenSpec.ofChange Rows.diffNoneSpec)) = true := by kernel_rfl
theorem diffNone_k1 : (laidOutB Try.prog) = true := by kernel_rfl
theorem diffNone_k2 : (mapsRowed Try.prog) = true := by kernel_rfl
theorem diffNone_k3 : (Try.f23.params.all (Try.prog.readableRec ·)) = true := by kernel_rfl
theorem diffNone_k4 : (namedTie Try.prog Rows.diffNoneRow.named Rows.diffNoneSpec.vars) = true := by kernel_rfl
theorem diffNone_k5 : ((Rows.diffNoneRow.stops == [])) = true := by kernel_rfl
theorem diffNone_k6 : ((Try.prog.stops == [])) = true := by kernel_rfl
theorem diffNone_k7 : ((Rows.diffNoneRow.knobs == [])) = true := by kernel_rfl
theorem diffNone_k8 : ((Try.prog.stopKnobs == [])) = true := by kernel_rfl
theorem diffNone_k9 : ((Rows.diffNoneRow.inPlace == Try.prog.inPlace 23)) = true := by kernel_rfl
theorem diffNone_k10 : ((Rows.diffNoneRow.unfollowed == Try.prog.unfollowed 23)) = true := by kernel_rfl
theorem diffNone_k11 : ((Rows.diffNoneRow.recurses == Try.prog.recurses 23)) = true := by kernel_rfl
theorem diffNone_k12 : ((Rows.diffNoneRow.named == Try.prog.varsNamed 23)) = true := by kernel_rfl
theorem diffNone_k13 : ((Rows.diffNoneRow.maps == (Try.f23.params.toList ++ Rows.diffNoneSpec.plain.varTypes Try.prog).any (Try.prog.mapsRec ·))) = true := by kernel_rfl
theorem diffNone_k14 : ((Rows.diffNoneRow.ifaces == (Try.f23.params.toList ++ Rows.diffNoneSpec.plain.varTypes Try.prog).any (Try.prog.ifacesRec ·))) = true := by kernel_rfl
theorem diffNone_k15 : ((Rows.diffNoneRow.mapsOut == Try.prog.mapsAmong Try.f23.resultTypes.toList)) = true := by kernel_rfl
theorem diffNone_k16 : ((Rows.diffNoneRow.loops == (Try.f23.params.toList ++ Rows.diffNoneSpec.plain.varTypes Try.prog).any (Try.prog.loopsFrom ·))) = true := by kernel_rfl
theorem diffNone_k17 : ((Rows.diffNoneRow.wideKeys == (Try.f23.params.toList ++ Rows.diffNoneSpec.plain.varTypes Try.prog ++ Try.f23.resultTypes.toList).any (Try.prog.wideKeysFrom ·))) = true := by kernel_rfl
theorem diffNone_k18 : (Rows.diffNoneSpec.vars.all (Try.prog.varReadable ·)) = true := by kernel_rfl
theorem diffNone_k19 : (Try.f23.resultTypes.all (fun t => Try.prog.readableRec t && decide (t < Try.prog.types.size))) = true := by kernel_rfl
theorem diffNone_k20 : ((Rows.diffNoneRow.ifacesOut == Try.f23.resultTypes.toList.any (Try.prog.ifacesRec ·))) = true := by kernel_rfl
theorem diffNone_k21 : ((Rows.diffNoneRow.loopsOut == Try.f23.resultTypes.toList.any (Try.prog.loopsFrom ·))) = true := by kernel_rfl
theorem diffNone_k22 : ((Rows.diffNoneRow.plainKeys == Try.prog.plainKeys)) = true := by kernel_rfl
theorem diffNone_k23 : (Rows.diffNoneRow.shortTexts.isNone) = true := by kernel_rfl
theorem diffNone_k24 : (Try.prog.stopsHeard) = true := by kernel_rfl
theorem diffNone_k25 : (Try.prog.mayEnter) = true := mayEnter_of Try.prog (behindMainWord (wordsSigns initSigns)) (congrArg (fun l => behindMainWord (wordsSigns l)) initL) initStrip1 initStrip2 initLays initReflect initDoors
theorem diffNone_k26 : ((Rows.diffNoneRow.lifted == Try.prog.liftsFinal)) = true := beq_of (liftsFinal_of Try.prog (behindMainWord (wordsSigns initSigns)) (congrArg (fun l => behindMainWord (wordsSigns l)) initL) initStrip1 initHead)
theorem diffNone_k27 : ((Try.prog.make == some Rows.diffNoneRow.make)) = true := by rw [make_of Try.prog (behindMainWord (wordsSigns initSigns)) (congrArg (fun l => behindMainWord (wordsSigns l)) initL) initHead]; rfl
theorem diffNone_k28 : ((Rows.diffNoneRow.kinds == [])) = true := by kernel_rfl
theorem diffNone_k29 : ((Rows.diffNoneRow.pinned == Rows.diffNoneRow.pinnedBy)) = true := by kernel_rfl
theorem diffNone_k30 : ((Rows.diffNoneRow.veiled == (Try.f23.params.toList ++ Rows.diffNoneSpec.plain.varTypes Try.prog ++ Try.f23.resultTypes.toList).any (Try.prog.veiledRec ·))) = true := by kernel_rfl
theorem diffNone_k31 : (Rows.diffNoneRow.veiledFits Try.prog Try.f23.params.toList (Try.f23.params.toList ++ Rows.diffNoneSpec.plain.varTypes Try.prog ++ Try.f23.resultTypes.toList)) = true := by kernel_rfl
theorem diffNone_dom : (Rows.diffNoneRow.domain.isEmpty) = true := by kernel_rfl
theorem diffNone_join : joinedFacts Try.prog 23 Try.f23 Rows.diffNoneSpec Rows.diffNoneRow = true :=
  join_of diffNone_dom diffNone_k0 diffNone_k1 diffNone_k2 diffNone_k3 diffNone_k4 diffNone_k5 diffNone_k6 diffNone_k7 diffNone_k8 diffNone_k9 diffNone_k10 diffNone_k11 diffNone_k12 diffNone_k13 diffNone_k14 diffNone_k15 diffNone_k16 diffNone_k17 diffNone_k18 diffNone_k19 diffNone_k20 diffNone_k21 diffNone_k22 diffNone_k23 diffNone_k24 diffNone_k25 diffNone_k26 diffNone_k27 diffNone_k28 diffNone_k29 diffNone_k30 diffNone_k31
theorem diffNone_reads : ∀ t ∈ Try.f23.params.toList, Try.prog.readableRec t = true ∧ t < Try.prog.types.size := by
  have h : (Try.f23.params.toList.all fun t => Try.prog.readableRec t && decide (t < Try.prog.types.size)) = true := by kernel_rfl
  intro t ht
  simpa using List.all_eq_true.1 h t ht
theorem diffNone_lifted (os : Os) (started : os.Started) (H : Type) (enc : TypeId × Value → H) :
    ReturnsInHanded {} Try.checked os 23 .any (Rows.diffNoneSpec.pre6 enc Try.prog Try.f23 Rows.diffNoneRow.domain false) (Rows.diffNoneSpec.post enc Try.prog Try.f23 false true false false) := by
  refine returnsInHanded_w (C := Try.checked) ownNone started (by kernel_rfl) Try.func23
    (ChangeSpec.witness6 (enc := enc) (C := Try.checked) false ⟨#[], #[.slice none 0 0], []⟩ 8 (by kernel_rfl) (by kernel_rfl) (by kernel_rfl) (by kernel_rfl)) ?_
  intro W base args ds gs before hval0 hW hwt
  have hval : ∀ (j : Nat) t v, Try.f23.params[j]? = some t → args[j]? = some v → Value.okWide Try.prog W .any base t v := hval0
  have hW' := hW
  obtain ⟨p, q, hA0, hV, rfl, hfz, hnd⟩ := hW
  have hA : DataW.TrodAll enc Try.prog W 0 (fun _ => true) true Try.f23.params.toList args.toList ds p := hA0
  have hA1 := hA
  rw [Try.params23] at hA hval
  obtain ⟨v0, vs0, d0, ds0, p0, q0, hargs, rfl, rfl, h0, r0⟩ := trodAll_cons hA
  obtain ⟨rfl, rfl, rfl⟩ := trodAll_nil r0
  obtain rfl : args = #[v0] := by cases args; simp_all
  obtain ⟨rfl, rfl⟩ := trodVars_none hV
  clear hA0 hval0 hargs
  have w0 : WOk Try.prog 53 d0 := weightsEach_at hwt 0 _ _ (by kernel_rfl) rfl
  obtain ⟨fuel0, f0⟩ := h0
  obtain ⟨s0, xs0, hc0, hr0⟩ := es_of_trod f0 w0
  obtain ⟨ad0, n0, c0, rfl⟩ := okWide_slice Try.underlying53 (hval 0 53 v0 rfl rfl)
  have e0 : Value.slice ad0 n0 c0 = .slice s0.a xs0.length s0.c := by simpa [Value.cells] using hc0
  rw [e0] at hA1 hW' ⊢
  refine (diffnone_w s0 xs0 W hr0).mono fun e W' ⟨he, hg⟩ => ?_
  subst he
  have hB : Below W.heap.size W W' := hg.below
  have hlt := DataW.Whole.lt hW'
  exact ⟨_, rfl, post_of_below (pv := []) hW' (fun _ _ _ => (trodAll_cons_mk (shut_bool Try.underlying4 _) trodAll_mk0)) (fun sp hsp => trodAll_stays diffNone_k1 hB sp diffNone_reads hA1 (fun z hz => hlt z (by simpa using hz)) (fun z hz => hsp z (by simpa using hz))) (fun _ _ => rfl) rfl
    hB (ok_one (by kernel_rfl) rfl (okWide_bool_mk Try.underlying4 _))⟩
theorem diffNone_holds : Rows.diffNoneRow.holds Try.pinned (OpenSpec.ofChange Rows.diffNoneSpec) :=
  OpenClaim.holds_of_wide 23 Try.f23 rfl rfl rfl rfl rfl rfl rfl ⟨rfl, rfl, rfl, rfl, rfl⟩ rfl rfl rfl rfl rfl (by kernel_rfl) Try.func23 diffNone_join
    (of_decide_eq_true (by kernel_rfl)) (by unfold Func.isWrapper; first | (rw [if_pos (by decide +kernel)]; kernel_rfl) | (rw [if_neg (by decide +kernel)]; exact ⟨rfl, rfl⟩))
    (fun os started H enc _ => diffNone_lifted os started H enc)
theorem diffNone_said : Rows.DiffNoneSaid := diffNone_holds
#print axioms diffNone_said
end Go.Proofs.Ytpapoalgocmlaaa
