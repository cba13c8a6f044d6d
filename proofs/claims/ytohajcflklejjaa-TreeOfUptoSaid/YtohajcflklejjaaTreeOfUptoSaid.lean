/- The statement TreeOf: whatever the input, the law answers true, and the input reads as it did; no condition. -/
import Derived.Test.YtohajcflklejjaaPoFacts
import Derived.Test.YtohajcflklejjaaPoa
import Derived.Test.YtohajcflklejjaaPob
import Derived.Test.YtohajcflklejjaaPoc
import Derived.Test.YtohajcflklejjaaPod
import Derived.Test.YtohajcflklejjaaPoe
import Derived.Test.YtohajcflklejjaaPof
import Derived.Test.YtohajcflklejjaaPog
import Derived.Test.YtohajcflklejjaaPoh
import Derived.ShutString
import Derived.Deep.CondSized
import Derived.JoinedCond
namespace Go.Proofs.Ytohajcflklejjaa
open Go.ChangeShapes Go.WideShapes Go.ChangeAt Go.RowKit
set_option linter.unusedVariables false
set_option linter.unusedSimpArgs false
set_option linter.unnecessarySimpa false
set_option maxRecDepth 100000
open Go.ChangeMaps (open_string shut_string)
theorem treeOf_k0 : (Rows.treeOfUptoRow.wf (OpenSpec.ofChange Rows.treeOfSpec)) = true := by kernel_rfl
theorem treeOf_k1 : (laidOutB Try.prog) = true := by kernel_rfl
theorem treeOf_k2 : (mapsRowed Try.prog) = true := by kernel_rfl
theorem treeOf_k3 : (Try.f3.params.all (Try.prog.readableRec ·)) = true := by kernel_rfl
theorem treeOf_k4 : (namedTie Try.prog Rows.treeOfUptoRow.named Rows.treeOfSpec.vars) = true := by kernel_rfl
theorem treeOf_k5 : ((Rows.treeOfUptoRow.stops == [])) = true := by kernel_rfl
theorem treeOf_k6 : ((Try.prog.stops == [])) = true := by kernel_rfl
theorem treeOf_k7 : ((Rows.treeOfUptoRow.knobs == [])) = true := by kernel_rfl
theorem treeOf_k8 : ((Try.prog.stopKnobs == [])) = true := by kernel_rfl
theorem treeOf_k9 : ((Rows.treeOfUptoRow.inPlace == Try.prog.inPlace 3)) = true := by kernel_rfl
theorem treeOf_k10 : ((Rows.treeOfUptoRow.unfollowed == Try.prog.unfollowed 3)) = true := by kernel_rfl
theorem treeOf_k11 : ((Rows.treeOfUptoRow.recurses == Try.prog.recurses 3)) = true := by kernel_rfl
theorem treeOf_k12 : ((Rows.treeOfUptoRow.named == Try.prog.varsNamed 3)) = true := by kernel_rfl
theorem treeOf_k13 : ((Rows.treeOfUptoRow.maps == (Try.f3.params.toList ++ Rows.treeOfSpec.plain.varTypes Try.prog).any (Try.prog.mapsRec ·))) = true := by kernel_rfl
theorem treeOf_k14 : ((Rows.treeOfUptoRow.ifaces == (Try.f3.params.toList ++ Rows.treeOfSpec.plain.varTypes Try.prog).any (Try.prog.ifacesRec ·))) = true := by kernel_rfl
theorem treeOf_k15 : ((Rows.treeOfUptoRow.mapsOut == Try.prog.mapsAmong Try.f3.resultTypes.toList)) = true := by kernel_rfl
theorem treeOf_k16 : ((Rows.treeOfUptoRow.loops == (Try.f3.params.toList ++ Rows.treeOfSpec.plain.varTypes Try.prog).any (Try.prog.loopsFrom ·))) = true := by kernel_rfl
theorem treeOf_k17 : ((Rows.treeOfUptoRow.wideKeys == (Try.f3.params.toList ++ Rows.treeOfSpec.plain.varTypes Try.prog ++ Try.f3.resultTypes.toList).any (Try.prog.wideKeysFrom ·))) = true := by kernel_rfl
theorem treeOf_k18 : (Rows.treeOfSpec.vars.all (Try.prog.varReadable ·)) = true := by kernel_rfl
theorem treeOf_k19 : (Try.f3.resultTypes.all (fun t => Try.prog.readableRec t && decide (t < Try.prog.types.size))) = true := by kernel_rfl
theorem treeOf_k20 : ((Rows.treeOfUptoRow.ifacesOut == Try.f3.resultTypes.toList.any (Try.prog.ifacesRec ·))) = true := by kernel_rfl
theorem treeOf_k21 : ((Rows.treeOfUptoRow.loopsOut == Try.f3.resultTypes.toList.any (Try.prog.loopsFrom ·))) = true := by kernel_rfl
theorem treeOf_k22 : ((Rows.treeOfUptoRow.plainKeys == Try.prog.plainKeys)) = true := by kernel_rfl
theorem treeOf_k23 : (Rows.treeOfUptoRow.shortTexts.isNone) = true := by kernel_rfl
theorem treeOf_k24 : (Try.prog.stopsHeard) = true := by kernel_rfl
theorem treeOf_k25 : (Try.prog.mayEnter) = true := mayEnter_of Try.prog (behindMainWord (wordsSigns initSigns)) (congrArg (fun l => behindMainWord (wordsSigns l)) initL) initStrip1 initStrip2 initLays initReflect initDoors
theorem treeOf_k26 : ((Rows.treeOfUptoRow.lifted == Try.prog.liftsFinal)) = true := beq_of (liftsFinal_of Try.prog (behindMainWord (wordsSigns initSigns)) (congrArg (fun l => behindMainWord (wordsSigns l)) initL) initStrip1 initHead)
theorem treeOf_k27 : ((Try.prog.make == some Rows.treeOfUptoRow.make)) = true := by rw [make_of Try.prog (behindMainWord (wordsSigns initSigns)) (congrArg (fun l => behindMainWord (wordsSigns l)) initL) initHead]; rfl
theorem treeOf_k28 : ((Rows.treeOfUptoRow.kinds == [])) = true := by kernel_rfl
theorem treeOf_k29 : ((Rows.treeOfUptoRow.pinned == Rows.treeOfUptoRow.pinnedBy)) = true := by kernel_rfl
theorem treeOf_k30 : ((Rows.treeOfUptoRow.veiled == (Try.f3.params.toList ++ Rows.treeOfSpec.plain.varTypes Try.prog ++ Try.f3.resultTypes.toList).any (Try.prog.veiledRec ·))) = true := by kernel_rfl
theorem treeOf_k31 : (Rows.treeOfUptoRow.veiledFits Try.prog Try.f3.params.toList (Try.f3.params.toList ++ Rows.treeOfSpec.plain.varTypes Try.prog ++ Try.f3.resultTypes.toList)) = true := by kernel_rfl
theorem treeOf_dom : (Rows.treeOfUptoRow.domain.isEmpty) = true := by kernel_rfl
theorem treeOf_join : joinedFacts Try.prog 3 Try.f3 Rows.treeOfSpec Rows.treeOfUptoRow = true :=
  join_of treeOf_dom treeOf_k0 treeOf_k1 treeOf_k2 treeOf_k3 treeOf_k4 treeOf_k5 treeOf_k6 treeOf_k7 treeOf_k8 treeOf_k9 treeOf_k10 treeOf_k11 treeOf_k12 treeOf_k13 treeOf_k14 treeOf_k15 treeOf_k16 treeOf_k17 treeOf_k18 treeOf_k19 treeOf_k20 treeOf_k21 treeOf_k22 treeOf_k23 treeOf_k24 treeOf_k25 treeOf_k26 treeOf_k27 treeOf_k28 treeOf_k29 treeOf_k30 treeOf_k31
theorem treeOf_reads : ∀ t ∈ Try.f3.params.toList, Try.prog.readableRec t = true ∧ t < Try.prog.types.size := by
  have h : (Try.f3.params.toList.all fun t => Try.prog.readableRec t && decide (t < Try.prog.types.size)) = true := by kernel_rfl
  intro t ht
  simpa using List.all_eq_true.1 h t ht
theorem treeOf_lifted (os : Os) (started : os.Started) (H : Type) (enc : TypeId × Value → H) (F : Stop.Interp) :
    ReturnsInHanded {} Try.checked os 3 .any ((Rows.OpenSpec.upto Rows.treeOfSpec).pre6 enc Try.prog Try.f3 Rows.treeOfUptoRow.domain false) (((Rows.OpenSpec.upto Rows.treeOfSpec).at F).post enc Try.prog Try.f3 false true false false) := by
  refine returnsInHanded_of_cond_sized (C := Try.checked) (s := Rows.OpenSpec.upto Rows.treeOfSpec) (k := Rows.uptoSmall) rfl ownNone started (by kernel_rfl) Try.func3
    (OpenSpec.witness (enc := enc) (C := Try.checked) (s := Rows.OpenSpec.upto Rows.treeOfSpec) (k := Rows.uptoSmall) rfl false ⟨#[], #[.agg #[.slice none 0 0, .slice none 0 0], .slice none 0 0], []⟩ 8 (by kernel_rfl) (by kernel_rfl) (by kernel_rfl)
      (x := ([.agg [.nil, .nil], .nil], [], [])) (by kernel_rfl) rfl (by kernel_rfl)) ?_
  intro W base args ds gs before hval0 hW _ hk hwt _
  have hval : ∀ (j : Nat) t v, Try.f3.params[j]? = some t → args[j]? = some v → Value.okWide Try.prog W .any base t v := hval0
  have hW' := hW
  obtain ⟨p, q, hA0, hV, rfl, hfz, hnd⟩ := hW
  have hA : DataW.TrodAll enc Try.prog W 0 (fun _ => true) true Try.f3.params.toList args.toList ds p := hA0
  have hA1 := hA
  rw [Try.params3] at hA hval
  obtain ⟨v0, vs0, d0, ds0, p0, q0, hargs, rfl, rfl, h0, r0⟩ := trodAll_cons hA
  obtain ⟨v1, vs1, d1, ds1, p1, q1, rfl, rfl, rfl, h1, r1⟩ := trodAll_cons r0
  obtain ⟨rfl, rfl, rfl⟩ := trodAll_nil r1
  obtain rfl : args = #[v0, v1] := by cases args; simp_all
  obtain ⟨rfl, rfl⟩ := trodVars_none hV
  clear hA0 hval0 hargs
  have w0 : WOk Try.prog 25 d0 := weightsEach_at hwt 0 _ _ (by kernel_rfl) rfl
  obtain ⟨fuel0, f0⟩ := h0
  obtain ⟨x0, se0, sk0, hc0, hr0', hb0⟩ := shape_of_trod fuel0 f0 w0
  have hr0 : RS W (Lt W.heap.size) x0 se0 sk0 ∧ nodesS x0 ≤ 1048576 := ⟨hr0', by
      have hB : Rows.uptoBulkAll _ ≤ 1048576 := of_decide_eq_true hk
      simp only [Rows.uptoBulkAll, List.append_nil, List.cons_append, List.nil_append] at hB
      have hb' : nodesS x0 ≤ Rows.uptoBulk d0 := hb0
      omega⟩
  obtain ⟨cs0, rfl, -⟩ := okWide_struct Try.underlying25 (hval 0 25 v0 rfl rfl)
  have e0 : Value.agg cs0 = aggS x0 se0 sk0 := by simp only [Value.cells] at hc0; rw [aggS, ← hc0]
  rw [e0] at hA1 hW' ⊢
  have w1 : WOk Try.prog 26 d1 := weightsEach_at hwt 1 _ _ (by kernel_rfl) rfl
  obtain ⟨fuel1, f1⟩ := h1
  obtain ⟨s1, xs1, hc1, hr1⟩ := acts_of_trod f1 w1
  obtain ⟨ad1, n1, c1, rfl⟩ := okWide_slice Try.underlying26 (hval 1 26 v1 rfl rfl)
  have e1 : Value.slice ad1 n1 c1 = .slice s1.a xs1.length s1.c := by simpa [Value.cells] using hc1
  rw [e1] at hA1 hW' ⊢
  refine (treeof_w x0 se0 sk0 s1 xs1 W hr0 hr1).mono fun e W' ⟨he, hg⟩ => ?_
  subst he
  have hB : Below W.heap.size W W' := hg.below
  have hlt := DataW.Whole.lt hW'
  exact ⟨_, rfl, post_of_below (pv := []) hW' (fun _ _ _ => (trodAll_cons_mk (shut_bool Try.underlying4 _) trodAll_mk0)) (fun sp hsp => trodAll_stays treeOf_k1 hB sp treeOf_reads hA1 (fun z hz => hlt z (by simpa using hz)) (fun z hz => hsp z (by simpa using hz))) (fun _ _ => rfl) rfl
    hB (ok_one (by kernel_rfl) rfl (okWide_bool_mk Try.underlying4 _))⟩
theorem treeOf_holds : Rows.treeOfUptoRow.holds Try.pinned (Rows.OpenSpec.upto Rows.treeOfSpec) :=
  OpenClaim.holds_of_cond 3 Try.f3 rfl rfl rfl rfl rfl rfl rfl ⟨rfl, rfl, rfl, rfl, rfl⟩ rfl rfl rfl rfl rfl (by kernel_rfl) Try.func3 treeOf_join
    (of_decide_eq_true (by kernel_rfl)) (by unfold Func.isWrapper; first | (rw [if_pos (by decide +kernel)]; kernel_rfl) | (rw [if_neg (by decide +kernel)]; exact ⟨rfl, rfl⟩))
    (fun os started H enc _ F => treeOf_lifted os started H enc F)
theorem treeOf_upto : Rows.TreeOfUptoSaid := treeOf_holds
#print axioms treeOf_upto
end Go.Proofs.Ytohajcflklejjaa
