/- What the theorem needs of the texts SubsNil: no condition of its own. -/
import Derived.Deep.RegionLaw
import Derived.Lib.SliceRun
import Derived.Laws.IdiomStrings
import Derived.WalkArith
import Derived.OrdersIn
import Derived.Test.YtohajcflklejjaaGreatPqa
import Derived.Test.YtohajcflklejjaaGreatPqb
import Derived.Test.YtohajcflklejjaaGreatPqc
import Derived.Test.YtohajcflklejjaaGreatPqd
import Derived.Test.YtohajcflklejjaaGreatPqe
import Derived.Test.YtohajcflklejjaaGreatPqf
import Derived.Test.YtohajcflklejjaaGreatPqg
import Derived.Test.YtohajcflklejjaaGreatPqh
import Derived.Test.YtohajcflklejjaaGreatPqi
namespace Go.Proofs.YtohajcflklejjaaGreat
open Go.RowKit
set_option linter.unusedVariables false
set_option linter.unusedSimpArgs false
theorem add_nil27 (w : World) (q : Qy) : Calls Tryz.prog 16 #[.pointer none, q.v] w fun e w' => e = .returned (.tuple #[.int .u64 0, .int .i64 1]) ∧ Ext w w' := by
  obtain ⟨kd, lo, hi, op⟩ := q
  go_enter Tryz.func16, Tryz.ntmps16
  go_wp2_with fail
  refine bodyPost_ret (v := .tuple #[.int .u64 0, .int .i64 1]) (by simp [results, Tryz.results16, go_sem]) rfl ?_
  exact ⟨rfl, (Ext.refl w).alloc _ _⟩
theorem drop_nil27 (w : World) (i : Int) : Calls Tryz.prog 22 #[.pointer none, .int .u64 i] w fun e w' => e = .returned (.int .i64 1) ∧ Ext w w' := by
  go_enter Tryz.func22, Tryz.ntmps22
  go_wp2_with fail
  go_ret
  exact ⟨rfl, Ext.refl w⟩
theorem live_nil27 (w : World) : Calls Tryz.prog 23 #[.pointer none] w fun e w' => e = .returned (.slice none 0 0) ∧ Ext w w' := by
  go_enter Tryz.func23, Tryz.ntmps23
  go_wp2_with fail
  go_ret
  exact ⟨rfl, Ext.refl w⟩
theorem head_nil27 (w : World) : Calls Tryz.prog 24 #[.pointer none] w fun e w' => e = .returned (.agg #[.pointer none]) ∧ Ext w w' := by
  go_enter Tryz.func24, Tryz.ntmps24
  go_wp2_with fail
  refine bodyPost_ret (v := .agg #[.pointer none]) (by simp [results, Tryz.results24, go_sem]) rfl ?_
  exact ⟨rfl, (Ext.refl w).alloc _ _⟩
theorem result_nil27 (w : World) (i : Int) : Calls Tryz.prog 19 #[.pointer none, .int .u64 i] w fun e w' => e = .returned (.tuple #[.slice none 0 0, .int .i64 1]) ∧ Ext w w' := by
  refine (callsIn_wide (n := 6)).1 ?_
  refine callsIn_of_wp_marks Tryz.func19 rfl trivial ?_ rfl
  simp only [Tryz.ntmps19, List.size_toArray, List.length_cons, List.length_nil, Nat.reduceAdd, Nat.reduceSub, Array.replicate_succ, Array.replicate_zero, List.push_toArray, List.append_toArray, List.nil_append, List.cons_append]
  gi_wp2_with fail
  refine ⟨.tuple #[.slice none 0 0, .int .i64 1], by simp [results, Tryz.f19, go_sem], rfl, Ext.refl w⟩
theorem after_nil27 (w : World) (p : Option Addr) : Calls Tryz.prog 18 #[.pointer none, .agg #[.pointer p]] w fun e w' => e = .returned (.slice none 0 0) ∧ Ext w w' := by
  refine (callsIn_wide (n := 6)).1 ?_
  refine callsIn_of_wp_marks Tryz.func18 rfl trivial ?_ rfl
  simp only [Tryz.ntmps18, List.size_toArray, List.length_cons, List.length_nil, Nat.reduceAdd, Nat.reduceSub, Array.replicate_succ, Array.replicate_zero, List.push_toArray, List.append_toArray, List.nil_append, List.cons_append]
  gi_wp2_with fail
  refine ⟨.slice none 0 0, by simp [results, Tryz.f18, go_sem], rfl, (Ext.refl w).alloc _ _⟩
set_option maxRecDepth 100000 in
theorem subsnil_w (w : World) : Calls Tryz.prog 5 #[] w fun e w' => e = .returned (.bool true) ∧ Below w.heap.size w w' := by
  go_enter Tryz.func5, Tryz.ntmps5
  go_wp2_with fail
  refine (add_nil27 w ⟨0, ⟨#[]⟩, ⟨#[]⟩, false⟩).mono ?_
  rintro e w1 ⟨rfl, hx1⟩
  have HX1 := Lib.hid hx1
  clear hx1
  go_wp2_with fail
  refine (result_nil27 w1 1).mono ?_
  rintro e w2 ⟨rfl, hx2⟩
  have HX2 := Lib.hid (HX1.out.trans hx2)
  clear hx2
  go_wp2_with fail
  refine (drop_nil27 w2 1).mono ?_
  rintro e w3 ⟨rfl, hx3⟩
  have HX3 := Lib.hid (HX2.out.trans hx3)
  clear hx3
  go_wp2_with fail
  refine (live_nil27 w3).mono ?_
  rintro e w4 ⟨rfl, hx4⟩
  have HX4 := Lib.hid (HX3.out.trans hx4)
  clear hx4
  go_wp2_with fail
  refine (head_nil27 w4).mono ?_
  rintro e w5 ⟨rfl, hx5⟩
  have HX5 := Lib.hid (HX4.out.trans hx5)
  clear hx5
  go_wp2_with fail
  have hlen : Calls Tryz.prog 25 #[.agg #[.pointer none]] w5 fun e w' => e = .returned (.int .i64 0) ∧ Ext w5 w' := treeLen_any (T := none) (F := fun _ => False) (fun b hb => hb.elim) trivial
  refine hlen.mono ?_
  rintro e w6 ⟨rfl, hx6⟩
  have HX6 := Lib.hid (HX5.out.trans hx6)
  clear hx6 hlen
  go_wp2_with fail
  refine (num27_any _ _ _).mono ?_
  rintro e w7 ⟨rfl, hx7⟩
  have HX7 := Lib.hid (HX6.out.trans hx7)
  clear hx7
  go_wp2_with fail
  refine (tree_one (a := ⟨#[97]⟩) (v := numZ 1) (sl := Sl.none) (so := Sl.none) (by decide) (rv_numZ _ _ (by decide)) (Blk.new w7 _ _)).mono ?_
  rintro e w8 ⟨V, q, rfl, -, -, -, -, hx8⟩
  have HX8 := Lib.hid (HX7.out.trans (((Ext.refl w7).alloc _ _).trans hx8))
  clear hx8
  go_wp2_with fail
  refine (after_nil27 w8 q).mono ?_
  rintro e w9 ⟨rfl, hx9⟩
  have HX9 := Lib.hid (HX8.out.trans hx9)
  clear hx9
  go_wp2_with fail
  refine (known27 w9).mono ?_
  rintro e w10 ⟨rfl, hb10⟩
  have HB10 := Lib.hid (HX9.out.below.trans (hb10.mono HX9.out.size))
  clear hb10
  go_wp2_with fail
  go_ret
  exact ⟨rfl, HB10.out⟩
end Go.Proofs.YtohajcflklejjaaGreat
