/- The statement DiffEarly: whatever the input, the law answers true, and the input reads as it did; no condition. -/
import Derived.Test.YtpapoalgocmlaaaPdFacts
import Derived.Test.YtpapoalgocmlaaaPda
import Derived.Test.YtpapoalgocmlaaaPdb
import Derived.Test.YtpapoalgocmlaaaPdc
import Derived.Test.YtpapoalgocmlaaaPdd
import Derived.Test.YtpapoalgocmlaaaPde
import Derived.Test.YtpapoalgocmlaaaPdf
import Derived.Test.YtpapoalgocmlaaaPdg
import Derived.Test.YtpapoalgocmlaaaPdh
import Derived.Test.YtpapoalgocmlaaaPdm
import Derived.Test.YtpapoalgocmlaaaPdn
import Derived.ShutString
namespace Go.Proofs.Ytpapoalgocmlaaa
open Go.ChangeShapes Go.WideShapes Go.ChangeAt Go.RowKit
set_option linter.unusedVariables false
set_option linter.unusedSimpArgs false
set_option linter.unnecessarySimpa false
set_option maxRecDepth 100000
open Go.ChangeMaps (open_string shut_string)
theorem diffEarly_k0 : (Rows.diffEarlyRow.wf (OpenSpec.ofChange Rows.diffEarlySpec)) = true := by kernel_rfl
theorem diffEarly_k1 : (laidOutB Try.prog) = true := by kernel_rfl
theorem diffEarly_k2 : (mapsRowed Try.prog) = true := by kernel_rfl
theorem diffEarly_k3 : (Try.f25.params.all (Try.prog.readableRec ·)) = true := by kernel_rfl
theorem diffEarly_k4 : (namedTie Try.prog Rows.diffEarlyRow.named Rows.diffEarlySpec.vars) = true := by kernel_rfl
theorem diffEarly_k5 : ((Rows.diffEarlyRow.stops == [])) = true := by kernel_rfl
theorem diffEarly_k6 : ((Try.prog.stops == [])) = true := by kernel_rfl
theorem diffEarly_k7 : ((Rows.diffEarlyRow.knobs == [])) = true := by kernel_rfl
theorem diffEarly_k8 : ((Try.prog.stopKnobs == [])) = true := by kernel_rfl
theorem diffEarly_k9 : ((Rows.diffEarlyRow.inPlace == Try.prog.inPlace 25)) = true := by kernel_rfl
theorem diffEarly_k10 : ((Rows.diffEarlyRow.unfollowed == Try.prog.unfollowed 25)) = true := by kernel_rfl
theorem diffEarly_k11 : ((Rows.diffEarlyRow.recurses == Try.prog.recurses 25)) = true := by kernel_rfl
theorem diffEarly_k12 : ((Rows.diffEarlyRow.named == Try.prog.varsNamed 25)) = true := by kernel_rfl
theorem diffEarly_k13 : ((Rows.diffEarlyRow.maps == (Try.f25.params.toList ++ Rows.diffEarlySpec.plain.varTypes Try.prog).any (Try.prog.mapsRec ·))) = true := by kernel_rfl
theorem diffEarly_k14 : ((Rows.diffEarlyRow.ifaces == (Try.f25.params.toList ++ Rows.diffEarlySpec.plain.varTypes Try.prog).any (Try.prog.ifacesRec ·))) = true := by kernel_rfl
theorem diffEarly_k15 : ((Rows.diffEarlyRow.mapsOut == Try.prog.mapsAmong Try.f25.resultTypes.toList)) = true := by kernel_rfl
theorem diffEarly_k16 : ((Rows.diffEarlyRow.loops == (Try.f25.params.toList ++ Rows.diffEarlySpec.plain.varTypes Try.prog).any (Try.prog.loopsFrom ·))) = true := by kernel_rfl
theorem diffEarly_k17 : ((Rows.diffEarlyRow.wideKeys == (Try.f25.params.toList ++ Rows.diffEarlySpec.plain.varTypes Try.prog ++ Try.f25.resultTypes.toList).any (Try.prog.wideKeysFrom ·))) = true := by kernel_rfl
theorem diffEarly_k18 : (Rows.diffEarlySpec.vars.all (Try.prog.varReadable ·)) = true := by kernel_rfl
theorem diffEarly_k19 : (Try.f25.resultTypes.all (fun t => Try.prog.readableRec t && decide (t < Try.prog.types.size))) = true := by kernel_rfl
theorem diffEarly_k20 : ((Rows.diffEarlyRow.ifacesOut == Try.f25.resultTypes.toList.any (Try.prog.ifacesRec ·))) = true := by kernel_rfl
theorem diffEarly_k21 : ((Rows.diffEarlyRow.loopsOut == Try.f25.resultTypes.toList.any (Try.prog.loopsFrom ·))) = true := by kernel_rfl
theorem diffEarly_k22 : ((Rows.diffEarlyRow.plainKeys == Try.prog.plainKeys)) = true := by kernel_rfl
theorem diffEarly_k23 : (Rows.diffEarlyRow.shortTexts.isNone) = true := by kernel_rfl
theorem diffEarly_k24 : (Try.prog.stopsHeard) = true := by kernel_rfl
theorem diffEarly_k25 : (Try.prog.mayEnter) = true := mayEnter_of Try.prog (behindMainWord (wordsSigns initSigns)) (congrArg (fun l => behindMainWord (wordsSigns l)) initL) initStrip1 initStrip2 initLays initReflect initDoors
theorem diffEarly_k26 : ((Rows.diffEarlyRow.lifted == Try.prog.liftsFinal)) = true := beq_of (liftsFinal_of Try.prog (behindMainWord (wordsSigns initSigns)) (congrArg (fun l => behindMainWord (wordsSigns l)) initL) initStrip1 initHead)
theorem diffEarly_k27 : ((Try.prog.make == some Rows.diffEarlyRow.make)) = true := by rw [make_of Try.prog (behindMainWord (wordsSigns initSigns)) (congrArg (fun l => behindMainWord (wordsSigns l)) initL) initHead]; rfl
theorem diffEarly_k28 : ((Rows.diffEarlyRow.kinds == [])) = true := by kernel_rfl
theorem diffEarly_k29 : ((Rows.diffEarlyRow.pinned == Rows.diffEarlyRow.pinnedBy)) = true := by kernel_rfl
theorem diffEarly_k30 : ((Rows.diffEarlyRow.veiled == (Try.f25.params.toList ++ Rows.diffEarlySpec.plain.varTypes Try.prog ++ Try.f25.resultTypes.toList).any (Try.prog.veiledRec ·))) = true := by kernel_rfl
theorem diffEarly_k31 : (Rows.diffEarlyRow.veiledFits Try.prog Try.f25.params.toList (Try.f25.params.toList ++ Rows.diffEarlySpec.plain.varTypes Try.prog ++ Try.f25.resultTypes.toList)) = true := by kernel_rfl
theorem diffEarly_dom : (Rows.diffEarlyRow.domain.isEmpty) = true := by kernel_rfl
theorem diffEarly_join : joinedFacts Try.prog 25 Try.f25 Rows.diffEarlySpec Rows.diffEarlyRow = true :=
  join_of diffEarly_dom diffEarly_k0 diffEarly_k1 diffEarly_k2 diffEarly_k3 diffEarly_k4 diffEarly_k5 diffEarly_k6 diffEarly_k7 diffEarly_k8 diffEarly_k9 diffEarly_k10 diffEarly_k11 diffEarly_k12 diffEarly_k13 diffEarly_k14 diffEarly_k15 diffEarly_k16 diffEarly_k17 diffEarly_k18 diffEarly_k19 diffEarly_k20 diffEarly_k21 diffEarly_k22 diffEarly_k23 diffEarly_k24 diffEarly_k25 diffEarly_k26 diffEarly_k27 diffEarly_k28 diffEarly_k29 diffEarly_k30 diffEarly_k31
theorem diffEarly_reads : ∀ t ∈ Try.f25.params.toList, Try.prog.readableRec t = true ∧ t < Try.prog.types.size := by
  have h : (Try.f25.params.toList.all fun t => Try.prog.readableRec t && decide (t < Try.prog.types.size)) = true := by kernel_rfl
  intro t ht
  simpa using List.all_eq_true.1 h t ht
theorem diffEarly_lifted (os : Os) (started : os.Started) (H : Type) (enc : TypeId × Value → H) :
    ReturnsInHanded {} Try.checked os 25 .any (Rows.diffEarlySpec.pre6 enc Try.prog Try.f25 Rows.diffEarlyRow.domain false) (Rows.diffEarlySpec.post enc Try.prog Try.f25 false true false false) := by
  refine returnsInHanded_w (C := Try.checked) ownNone started (by kernel_rfl) Try.func25
    (ChangeSpec.witness6 (enc := enc) (C := Try.checked) false ⟨#[], #[.slice none 0 0, .slice none 0 0, .int .i64 0], []⟩ 8 (by kernel_rfl) (by kernel_rfl) (by kernel_rfl) (by kernel_rfl)) ?_
  intro W base args ds gs before hval0 hW hwt
  have hval : ∀ (j : Nat) t v, Try.f25.params[j]? = some t → args[j]? = some v → Value.okWide Try.prog W .any base t v := hval0
  have hW' := hW
  obtain ⟨p, q, hA0, hV, rfl, hfz, hnd⟩ := hW
  have hA : DataW.TrodAll enc Try.prog W 0 (fun _ => true) true Try.f25.params.toList args.toList ds p := hA0
  have hA1 := hA
  rw [Try.params25] at hA hval
  obtain ⟨v0, vs0, d0, ds0, p0, q0, hargs, rfl, rfl, h0, r0⟩ := trodAll_cons hA
  obtain ⟨v1, vs1, d1, ds1, p1, q1, rfl, rfl, rfl, h1, r1⟩ := trodAll_cons r0
  obtain ⟨v2, vs2, d2, ds2, p2, q2, rfl, rfl, rfl, h2, r2⟩ := trodAll_cons r1
  obtain ⟨rfl, rfl, rfl⟩ := trodAll_nil r2
  obtain rfl : args = #[v0, v1, v2] := by cases args; simp_all
  obtain ⟨rfl, rfl⟩ := trodVars_none hV
  clear hA0 hval0 hargs
  have w0 : WOk Try.prog 79 d0 := weightsEach_at hwt 0 _ _ (by kernel_rfl) rfl
  obtain ⟨fuel0, f0⟩ := h0
  obtain ⟨s0, xs0, hc0, hr0⟩ := acts_of_trod f0 w0
  obtain ⟨ad0, n0, c0, rfl⟩ := okWide_slice Try.underlying79 (hval 0 79 v0 rfl rfl)
  have e0 : Value.slice ad0 n0 c0 = .slice s0.a xs0.length s0.c := by simpa [Value.cells] using hc0
  rw [e0] at hA1 hW' ⊢
  have w1 : WOk Try.prog 79 d1 := weightsEach_at hwt 1 _ _ (by kernel_rfl) rfl
  obtain ⟨fuel1, f1⟩ := h1
  obtain ⟨s1, xs1, hc1, hr1⟩ := acts_of_trod f1 w1
  obtain ⟨ad1, n1, c1, rfl⟩ := okWide_slice Try.underlying79 (hval 1 79 v1 rfl rfl)
  have e1 : Value.slice ad1 n1 c1 = .slice s1.a xs1.length s1.c := by simpa [Value.cells] using hc1
  rw [e1] at hA1 hW' ⊢
  obtain ⟨a2, rfl, rfl, rfl, hr2⟩ := open_int Try.underlying3 (hval 2 3 v2 rfl rfl) h2
  refine (diffearly_w s0 xs0 s1 xs1 a2 W hr0 hr1 hr2).mono fun e W' ⟨he, hg⟩ => ?_
  subst he
  have hB : Below W.heap.size W W' := hg
  have hlt := DataW.Whole.lt hW'
  exact ⟨_, rfl, post_of_below (pv := []) hW' (fun _ _ _ => (trodAll_cons_mk (shut_bool Try.underlying4 _) trodAll_mk0)) (fun sp hsp => trodAll_stays diffEarly_k1 hB sp diffEarly_reads hA1 (fun z hz => hlt z (by simpa using hz)) (fun z hz => hsp z (by simpa using hz))) (fun _ _ => rfl) rfl
    hB (ok_one (by kernel_rfl) rfl (okWide_bool_mk Try.underlying4 _))⟩
theorem diffEarly_holds : Rows.diffEarlyRow.holds Try.pinned (OpenSpec.ofChange Rows.diffEarlySpec) :=
  OpenClaim.holds_of_wide 25 Try.f25 rfl rfl rfl rfl rfl rfl rfl ⟨rfl, rfl, rfl, rfl, rfl⟩ rfl rfl rfl rfl rfl (by kernel_rfl) Try.func25 diffEarly_join
    (of_decide_eq_true (by kernel_rfl)) (by unfold Func.isWrapper; first | (rw [if_pos (by decide +kernel)]; kernel_rfl) | (rw [if_neg (by decide +kernel)]; exact ⟨rfl, rfl⟩))
    (fun os started H enc _ => diffEarly_lifted os started H enc)
theorem diffEarly_said : Rows.DiffEarlySaid := diffEarly_holds
#print axioms diffEarly_said
end Go.Proofs.Ytpapoalgocmlaaa
