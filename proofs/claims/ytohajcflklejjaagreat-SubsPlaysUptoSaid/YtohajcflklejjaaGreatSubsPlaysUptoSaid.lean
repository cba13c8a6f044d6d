/- The statement SubsPlays: whatever the input, the law answers true, and the input reads as it did; no condition. -/
import Derived.Test.YtohajcflklejjaaGreatPhFacts
import Derived.Test.YtohajcflklejjaaGreatPha
import Derived.Test.YtohajcflklejjaaGreatPhb
import Derived.Test.YtohajcflklejjaaGreatPhc
import Derived.Test.YtohajcflklejjaaGreatPhd
import Derived.Test.YtohajcflklejjaaGreatPhe
import Derived.Test.YtohajcflklejjaaGreatPhf
import Derived.Test.YtohajcflklejjaaGreatPhg
import Derived.Test.YtohajcflklejjaaGreatPhh
import Derived.Test.YtohajcflklejjaaGreatPhi
import Derived.Test.YtohajcflklejjaaGreatPhj
import Derived.Test.YtohajcflklejjaaGreatPhk
import Derived.Test.YtohajcflklejjaaGreatPhl
import Derived.Test.YtohajcflklejjaaGreatPhm
import Derived.Test.YtohajcflklejjaaGreatPhn
import Derived.ShutString
import Derived.Deep.CondSized
import Derived.JoinedCond
namespace Go.Proofs.YtohajcflklejjaaGreat
open Go.ChangeShapes Go.WideShapes Go.ChangeAt Go.RowKit
set_option linter.unusedVariables false
set_option linter.unusedSimpArgs false
set_option linter.unnecessarySimpa false
set_option maxRecDepth 100000
open Go.ChangeMaps (open_string shut_string)
theorem subsPlays_k0 : (Rows.subsPlaysUptoRow.wf (OpenSpec.ofChange Rows.subsPlaysSpec)) = true := by kernel_rfl
theorem subsPlays_k1 : (laidOutB Tryz.prog) = true := by kernel_rfl
theorem subsPlays_k2 : (mapsRowed Tryz.prog) = true := by kernel_rfl
theorem subsPlays_k3 : (Tryz.f9.params.all (Tryz.prog.readableRec ·)) = true := by kernel_rfl
theorem subsPlays_k4 : (namedTie Tryz.prog Rows.subsPlaysUptoRow.named Rows.subsPlaysSpec.vars) = true := by kernel_rfl
theorem subsPlays_k5 : ((Rows.subsPlaysUptoRow.stops == [])) = true := by kernel_rfl
theorem subsPlays_k6 : ((Tryz.prog.stops == [])) = true := by kernel_rfl
theorem subsPlays_k7 : ((Rows.subsPlaysUptoRow.knobs == [])) = true := by kernel_rfl
theorem subsPlays_k8 : ((Tryz.prog.stopKnobs == [])) = true := by kernel_rfl
theorem subsPlays_k9 : ((Rows.subsPlaysUptoRow.inPlace == Tryz.prog.inPlace 9)) = true := by kernel_rfl
theorem subsPlays_k10 : ((Rows.subsPlaysUptoRow.unfollowed == Tryz.prog.unfollowed 9)) = true := by kernel_rfl
theorem subsPlays_k11 : ((Rows.subsPlaysUptoRow.recurses == Tryz.prog.recurses 9)) = true := by kernel_rfl
theorem subsPlays_k12 : ((Rows.subsPlaysUptoRow.named == Tryz.prog.varsNamed 9)) = true := by kernel_rfl
theorem subsPlays_k13 : ((Rows.subsPlaysUptoRow.maps == (Tryz.f9.params.toList ++ Rows.subsPlaysSpec.plain.varTypes Tryz.prog).any (Tryz.prog.mapsRec ·))) = true := by kernel_rfl
theorem subsPlays_k14 : ((Rows.subsPlaysUptoRow.ifaces == (Tryz.f9.params.toList ++ Rows.subsPlaysSpec.plain.varTypes Tryz.prog).any (Tryz.prog.ifacesRec ·))) = true := by kernel_rfl
theorem subsPlays_k15 : ((Rows.subsPlaysUptoRow.mapsOut == Tryz.prog.mapsAmong Tryz.f9.resultTypes.toList)) = true := by kernel_rfl
theorem subsPlays_k16 : ((Rows.subsPlaysUptoRow.loops == (Tryz.f9.params.toList ++ Rows.subsPlaysSpec.plain.varTypes Tryz.prog).any (Tryz.prog.loopsFrom ·))) = true := by kernel_rfl
theorem subsPlays_k17 : ((Rows.subsPlaysUptoRow.wideKeys == (Tryz.f9.params.toList ++ Rows.subsPlaysSpec.plain.varTypes Tryz.prog ++ Tryz.f9.resultTypes.toList).any (Tryz.prog.wideKeysFrom ·))) = true := by kernel_rfl
theorem subsPlays_k18 : (Rows.subsPlaysSpec.vars.all (Tryz.prog.varReadable ·)) = true := by kernel_rfl
theorem subsPlays_k19 : (Tryz.f9.resultTypes.all (fun t => Tryz.prog.readableRec t && decide (t < Tryz.prog.types.size))) = true := by kernel_rfl
theorem subsPlays_k20 : ((Rows.subsPlaysUptoRow.ifacesOut == Tryz.f9.resultTypes.toList.any (Tryz.prog.ifacesRec ·))) = true := by kernel_rfl
theorem subsPlays_k21 : ((Rows.subsPlaysUptoRow.loopsOut == Tryz.f9.resultTypes.toList.any (Tryz.prog.loopsFrom ·))) = true := by kernel_rfl
theorem subsPlays_k22 : ((Rows.subsPlaysUptoRow.plainKeys == Tryz.prog.plainKeys)) = true := by kernel_rfl
theorem subsPlays_k23 : (Rows.subsPlaysUptoRow.shortTexts.isNone) = true := by kernel_rfl
theorem subsPlays_k24 : (Tryz.prog.stopsHeard) = true := by kernel_rfl
theorem subsPlays_k25 : (Tryz.prog.mayEnter) = true := mayEnter_of Tryz.prog (behindMainWord (wordsSigns initSigns)) (congrArg (fun l => behindMainWord (wordsSigns l)) initL) initStrip1 initStrip2 initLays initReflect initDoors
theorem subsPlays_k26 : ((Rows.subsPlaysUptoRow.lifted == Tryz.prog.liftsFinal)) = true := beq_of (liftsFinal_of Tryz.prog (behindMainWord (wordsSigns initSigns)) (congrArg (fun l => behindMainWord (wordsSigns l)) initL) initStrip1 initHead)
theorem subsPlays_k27 : ((Tryz.prog.make == some Rows.subsPlaysUptoRow.make)) = true := by rw [make_of Tryz.prog (behindMainWord (wordsSigns initSigns)) (congrArg (fun l => behindMainWord (wordsSigns l)) initL) initHead]; rfl
theorem subsPlays_k28 : ((Rows.subsPlaysUptoRow.kinds == [])) = true := by kernel_rfl
theorem subsPlays_k29 : ((Rows.subsPlaysUptoRow.pinned == Rows.subsPlaysUptoRow.pinnedBy)) = true := by kernel_rfl
theorem subsPlays_k30 : ((Rows.subsPlaysUptoRow.veiled == (Tryz.f9.params.toList ++ Rows.subsPlaysSpec.plain.varTypes Tryz.prog ++ Tryz.f9.resultTypes.toList).any (Tryz.prog.veiledRec ·))) = true := by kernel_rfl
theorem subsPlays_k31 : (Rows.subsPlaysUptoRow.veiledFits Tryz.prog Tryz.f9.params.toList (Tryz.f9.params.toList ++ Rows.subsPlaysSpec.plain.varTypes Tryz.prog ++ Tryz.f9.resultTypes.toList)) = true := by kernel_rfl
theorem subsPlays_dom : (Rows.subsPlaysUptoRow.domain.isEmpty) = true := by kernel_rfl
theorem subsPlays_join : joinedFacts Tryz.prog 9 Tryz.f9 Rows.subsPlaysSpec Rows.subsPlaysUptoRow = true :=
  join_of subsPlays_dom subsPlays_k0 subsPlays_k1 subsPlays_k2 subsPlays_k3 subsPlays_k4 subsPlays_k5 subsPlays_k6 subsPlays_k7 subsPlays_k8 subsPlays_k9 subsPlays_k10 subsPlays_k11 subsPlays_k12 subsPlays_k13 subsPlays_k14 subsPlays_k15 subsPlays_k16 subsPlays_k17 subsPlays_k18 subsPlays_k19 subsPlays_k20 subsPlays_k21 subsPlays_k22 subsPlays_k23 subsPlays_k24 subsPlays_k25 subsPlays_k26 subsPlays_k27 subsPlays_k28 subsPlays_k29 subsPlays_k30 subsPlays_k31
theorem subsPlays_reads : ∀ t ∈ Tryz.f9.params.toList, Tryz.prog.readableRec t = true ∧ t < Tryz.prog.types.size := by
  have h : (Tryz.f9.params.toList.all fun t => Tryz.prog.readableRec t && decide (t < Tryz.prog.types.size)) = true := by kernel_rfl
  intro t ht
  simpa using List.all_eq_true.1 h t ht
theorem subsPlays_lifted (os : Os) (started : os.Started) (H : Type) (enc : TypeId × Value → H) (F : Stop.Interp) :
    ReturnsInHanded {} Tryz.checked os 9 .any ((Rows.OpenSpec.upto Rows.subsPlaysSpec).pre6 enc Tryz.prog Tryz.f9 Rows.subsPlaysUptoRow.domain false) (((Rows.OpenSpec.upto Rows.subsPlaysSpec).at F).post enc Tryz.prog Tryz.f9 false true false false) := by
  refine returnsInHanded_of_cond_sized (C := Tryz.checked) (s := Rows.OpenSpec.upto Rows.subsPlaysSpec) (k := Rows.uptoSmall) rfl ownNone started (by kernel_rfl) Tryz.func9
    (OpenSpec.witness (enc := enc) (C := Tryz.checked) (s := Rows.OpenSpec.upto Rows.subsPlaysSpec) (k := Rows.uptoSmall) rfl false ⟨#[], #[.slice none 0 0, .int .u64 0], []⟩ 8 (by kernel_rfl) (by kernel_rfl) (by kernel_rfl)
      (x := ([.nil, .lit (.int .u64 0)], [], [])) (by kernel_rfl) rfl (by kernel_rfl)) ?_
  intro W base args ds gs before hval0 hW _ hk hwt _
  have hval : ∀ (j : Nat) t v, Tryz.f9.params[j]? = some t → args[j]? = some v → Value.okWide Tryz.prog W .any base t v := hval0
  have hW' := hW
  obtain ⟨p, q, hA0, hV, rfl, hfz, hnd⟩ := hW
  have hA : DataW.TrodAll enc Tryz.prog W 0 (fun _ => true) true Tryz.f9.params.toList args.toList ds p := hA0
  have hA1 := hA
  rw [Tryz.params9] at hA hval
  obtain ⟨v0, vs0, d0, ds0, p0, q0, hargs, rfl, rfl, h0, r0⟩ := trodAll_cons hA
  obtain ⟨v1, vs1, d1, ds1, p1, q1, rfl, rfl, rfl, h1, r1⟩ := trodAll_cons r0
  obtain ⟨rfl, rfl, rfl⟩ := trodAll_nil r1
  obtain rfl : args = #[v0, v1] := by cases args; simp_all
  obtain ⟨rfl, rfl⟩ := trodVars_none hV
  clear hA0 hval0 hargs
  have w0 : WOk Tryz.prog 87 d0 := weightsEach_at hwt 0 _ _ (by kernel_rfl) rfl
  obtain ⟨fuel0, f0⟩ := h0
  obtain ⟨s0, xs0, hc0, hr0', hb0⟩ := acts27_of_trod f0 w0
  replace hb0 : _ ≤ Rows.uptoBulk d0 := hb0
  have hr0 : AS27 W (Lt W.heap.size) s0 xs0 ∧ totA xs0 xs0.length ≤ 1048576 := ⟨hr0', by
      have hB : Rows.uptoBulkAll _ ≤ 1048576 := of_decide_eq_true hk
      simp only [Rows.uptoBulkAll, List.append_nil, List.cons_append, List.nil_append] at hB
      have hb' : _ ≤ Rows.uptoBulk d0 := hb0
      omega⟩
  obtain ⟨ad0, n0, c0, rfl⟩ := okWide_slice Tryz.underlying87 (hval 0 87 v0 rfl rfl)
  have e0 : Value.slice ad0 n0 c0 = .slice s0.a xs0.length s0.c := by simpa [Value.cells] using hc0
  rw [e0] at hA1 hW' ⊢
  obtain ⟨a1, rfl, rfl, rfl, hr1⟩ := open_int Tryz.underlying34 (hval 1 34 v1 rfl rfl) h1
  refine (subsplays_r s0 xs0 a1 W hr0 hr1).mono fun e W' ⟨he, hg⟩ => ?_
  subst he
  have hB : Below W.heap.size W W' := hg
  have hlt := DataW.Whole.lt hW'
  exact ⟨_, rfl, post_of_below (pv := []) hW' (fun _ _ _ => (trodAll_cons_mk (shut_bool Tryz.underlying4 _) trodAll_mk0)) (fun sp hsp => trodAll_stays subsPlays_k1 hB sp subsPlays_reads hA1 (fun z hz => hlt z (by simpa using hz)) (fun z hz => hsp z (by simpa using hz))) (fun _ _ => rfl) rfl
    hB (ok_one (by kernel_rfl) rfl (okWide_bool_mk Tryz.underlying4 _))⟩
theorem subsPlays_holds : Rows.subsPlaysUptoRow.holds Tryz.pinned (Rows.OpenSpec.upto Rows.subsPlaysSpec) :=
  OpenClaim.holds_of_cond 9 Tryz.f9 rfl rfl rfl rfl rfl rfl rfl ⟨rfl, rfl, rfl, rfl, rfl⟩ rfl rfl rfl rfl rfl (by kernel_rfl) Tryz.func9 subsPlays_join
    (of_decide_eq_true (by kernel_rfl)) (by unfold Func.isWrapper; first | (rw [if_pos (by decide +kernel)]; kernel_rfl) | (rw [if_neg (by decide +kernel)]; exact ⟨rfl, rfl⟩))
    (fun os started H enc _ F => subsPlays_lifted os started H enc F)
theorem subsPlays_upto : Rows.SubsPlaysUptoSaid := subsPlays_holds
#print axioms subsPlays_upto
end Go.Proofs.YtohajcflklejjaaGreat
