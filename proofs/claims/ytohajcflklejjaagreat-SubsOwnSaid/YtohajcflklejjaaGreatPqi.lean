/- What the theorem needs of the texts SubsMay: no condition of its own. -/
import Derived.Deep.RegionLaw
import Derived.Lib.SliceRun
import Derived.Laws.IdiomStrings
import Derived.WalkArith
import Derived.OrdersIn
import Derived.Test.YtohajcflklejjaaGreatPqa
import Derived.Test.YtohajcflklejjaaGreatPqb
import Derived.Test.YtohajcflklejjaaGreatPqc
import Derived.Test.YtohajcflklejjaaGreatPqd
import Derived.Test.YtohajcflklejjaaGreatPqe
import Derived.Test.YtohajcflklejjaaGreatPqf
import Derived.Test.YtohajcflklejjaaGreatPqg
import Derived.Test.YtohajcflklejjaaGreatPqh
namespace Go.Proofs.YtohajcflklejjaaGreat
open Go.RowKit
set_option linter.unusedVariables false
set_option linter.unusedSimpArgs false
theorem bw_cell {n : Nat} {w w' : World} (h : Below n w w') {b o : Nat} (hb : b < n) : w'.cell? ⟨b, o, none⟩ = w.cell? ⟨b, o, none⟩ := World.cell?_of_block (w := w) (a := ⟨b, o, none⟩) (h.block b hb)
theorem bw_ext {n : Nat} {a w w' : World} (h : Below n a w) (k : Ext w w') (hn : n ≤ w.heap.size) : Below n a w' := h.trans (k.below.mono hn)
theorem bw_know {n : Nat} {a w w' : World} (h : Below n a w) (k : Below w.heap.size w w') (hn : n ≤ w.heap.size) : Below n a w' := h.trans (k.mono hn)
set_option maxRecDepth 100000 in
theorem subsmay_w (q : Qy) (k : ByteArray) (w : World) (hq : q.short) (hk : k.size ≤ maxLen) : Calls Tryz.prog 3 #[q.v, .string k] w fun e w' => e = .returned (.bool true) ∧ Below w.heap.size w w' := by
  have hm := fun W => may27_any q W
  have hrm := fun W => refMay27_any q W
  have hi := fun W => in27_any q k hq hk W
  have hri := fun W => refIn27_any q k hq hk W
  generalize mayQ q = m at hm hrm
  generalize inQ q k = ib at hi hri
  have HM := Lib.hid hm
  have HRM := Lib.hid hrm
  have HI := Lib.hid hi
  have HRI := Lib.hid hri
  have hmm : (m == m) = true := by simp
  have hii : (ib == ib) = true := by simp
  clear hm hrm hi hri hq hk
  obtain ⟨kd, lo, hi, op⟩ := q
  dsimp only [Qy.v] at *
  go_enter Tryz.func3, Tryz.ntmps3
  go_wp2_with fail
  generalize hW0 : World.alloc w _ = w0
  have hx0 : Ext w w0 := by rw [← hW0]; exact (Ext.refl _).alloc _ _
  have hz0 : w0.heap.size = w.heap.size + 1 := by rw [← hW0]; simp
  have hb0 : Blk w0 w.heap.size 24 #[.int .i64 kd, .string lo, .string hi, .bool op] := by rw [← hW0]; exact Blk.new w _ _
  have HSS := Lib.hid (show ∀ W, Below w0.heap.size w0 W → W.cell? ⟨w.heap.size, 0, none⟩ = some (.int .i64 kd) ∧ W.cell? ⟨w.heap.size, 1, none⟩ = some (.string lo) ∧ W.cell? ⟨w.heap.size, 2, none⟩ = some (.string hi) ∧ W.cell? ⟨w.heap.size, 3, none⟩ = some (.bool op) from
    fun W hW => ⟨(bw_cell hW hb0.lt).trans (hb0.cell 0), (bw_cell hW hb0.lt).trans (hb0.cell 1), (bw_cell hW hb0.lt).trans (hb0.cell 2), (bw_cell hW hb0.lt).trans (hb0.cell 3)⟩)
  have HX0 := Lib.hid hx0
  clear hW0 hb0 hx0 hz0
  refine wp_region_held_drew (S := (fun w' => Below w0.heap.size w0 w')) (by kernel_rfl) ((((Ext.refl w0).drew).below)) (fun hHeld => ?_)
  refine held_on (i := 0) (d := (some 5)) (v := ?_) rfl rfl (by kernel_rfl) (by kernel_rfl) (by kernel_rfl) (fun _ _ _ h => h) (by rfl) hHeld ?_ ?_
  rotate_left
  focus (intro w hSw; have hSc := HSS.out w hSw; clear hSw; go_simp; first | done | with_reducible rfl)
  try simp only [Act.put, List.setIfInBounds_toArray, List.set_cons_zero, List.set_cons_succ]
  refine held_on (i := 2) (d := (some 7)) (v := ?_) rfl rfl (by kernel_rfl) (by kernel_rfl) (by kernel_rfl) (fun _ _ _ h => h) (by rfl) hHeld ?_ ?_
  rotate_left
  focus (intro w hSw; have hSc := HSS.out w hSw; clear hSw; go_simp; first | done | with_reducible rfl)
  try simp only [Act.put, List.setIfInBounds_toArray, List.set_cons_zero, List.set_cons_succ]
  refine held_call (i := 1) (by kernel_rfl) rfl (by rfl) (fun K hK => ?_)
  go_simp
  (refine (HM.out _).mono ?_; rintro e wa ⟨rfl, hxa⟩)
  refine hK.out _ _ (bw_ext hHeld hxa hHeld.size) (fun hHeld => ?_)
  clear hK K
  try simp only [Act.put, List.setIfInBounds_toArray, List.set_cons_zero, List.set_cons_succ]
  refine held_call (i := 3) (by kernel_rfl) rfl (by rfl) (fun K hK => ?_)
  go_simp
  (refine (HRM.out _).mono ?_; rintro e wb ⟨rfl, hxb⟩)
  refine hK.out _ _ (bw_ext hHeld hxb hHeld.size) (fun hHeld => ?_)
  clear hK K
  try simp only [Act.put, List.setIfInBounds_toArray, List.set_cons_zero, List.set_cons_succ]
  refine held_on (i := 4) (d := (some 9)) (v := ?_) rfl rfl (by kernel_rfl) (by kernel_rfl) (by kernel_rfl) (fun _ _ _ h => h) (by rfl) hHeld ?_ ?_
  rotate_left
  focus (intro w hSw; have hSc := HSS.out w hSw; clear hSw; go_simp; first | done | with_reducible rfl)
  try simp only [Act.put, List.setIfInBounds_toArray, List.set_cons_zero, List.set_cons_succ]
  refine held_on (i := 5) (d := (some 10)) (v := ?_) rfl rfl (by kernel_rfl) (by kernel_rfl) (by kernel_rfl) (fun _ _ _ h => h) (by rfl) hHeld ?_ ?_
  rotate_left
  focus (intro w hSw; have hSc := HSS.out w hSw; clear hSw; go_simp; first | done | with_reducible rfl)
  try simp only [Act.put, List.setIfInBounds_toArray, List.set_cons_zero, List.set_cons_succ]
  refine held_on (i := 6) (d := (some 11)) (v := ?_) rfl rfl (by kernel_rfl) (by kernel_rfl) (by kernel_rfl) (fun _ _ _ h => h) (by rfl) hHeld ?_ ?_
  rotate_left
  focus (intro w hSw; have hSc := HSS.out w hSw; clear hSw; go_simp; first | done | with_reducible rfl)
  try simp only [Act.put, List.setIfInBounds_toArray, List.set_cons_zero, List.set_cons_succ]
  refine held_on (i := 7) (d := (some 12)) (v := ?_) rfl rfl (by kernel_rfl) (by kernel_rfl) (by kernel_rfl) (fun _ _ _ h => h) (by rfl) hHeld ?_ ?_
  rotate_left
  focus (intro w hSw; have hSc := HSS.out w hSw; clear hSw; go_simp; first | done | with_reducible rfl)
  try simp only [Act.put, List.setIfInBounds_toArray, List.set_cons_zero, List.set_cons_succ]
  refine held_on (i := 9) (d := (some 14)) (v := ?_) rfl rfl (by kernel_rfl) (by kernel_rfl) (by kernel_rfl) (fun _ _ _ h => h) (by rfl) hHeld ?_ ?_
  rotate_left
  focus (intro w hSw; have hSc := HSS.out w hSw; clear hSw; go_simp; first | done | with_reducible rfl)
  try simp only [Act.put, List.setIfInBounds_toArray, List.set_cons_zero, List.set_cons_succ]
  refine held_on (i := 10) (d := (some 15)) (v := ?_) rfl rfl (by kernel_rfl) (by kernel_rfl) (by kernel_rfl) (fun _ _ _ h => h) (by rfl) hHeld ?_ ?_
  rotate_left
  focus (intro w hSw; have hSc := HSS.out w hSw; clear hSw; go_simp; first | done | with_reducible rfl)
  try simp only [Act.put, List.setIfInBounds_toArray, List.set_cons_zero, List.set_cons_succ]
  refine held_call (i := 8) (by kernel_rfl) rfl (by rfl) (fun K hK => ?_)
  go_simp
  (refine (HI.out _).mono ?_; rintro e wc ⟨rfl, hxc⟩)
  refine hK.out _ _ (bw_ext hHeld hxc hHeld.size) (fun hHeld => ?_)
  clear hK K
  try simp only [Act.put, List.setIfInBounds_toArray, List.set_cons_zero, List.set_cons_succ]
  refine held_call (i := 11) (by kernel_rfl) rfl (by rfl) (fun K hK => ?_)
  go_simp
  (refine (HRI.out _).mono ?_; rintro e wd ⟨rfl, hxd⟩)
  refine hK.out _ _ (bw_ext hHeld hxd hHeld.size) (fun hHeld => ?_)
  clear hK K
  try simp only [Act.put, List.setIfInBounds_toArray, List.set_cons_zero, List.set_cons_succ]
  refine held_on (i := 12) (d := (some 17)) (v := ?_) rfl rfl (by kernel_rfl) (by kernel_rfl) (by kernel_rfl) (fun _ _ _ h => h) (by rfl) hHeld ?_ ?_
  rotate_left
  focus (intro w hSw; have hSc := HSS.out w hSw; clear hSw; go_simp; first | done | with_reducible rfl)
  try simp only [Act.put, List.setIfInBounds_toArray, List.set_cons_zero, List.set_cons_succ]
  refine held_on (i := 13) (d := (some 18)) (v := ?_) rfl rfl (by kernel_rfl) (by kernel_rfl) (by kernel_rfl) (fun _ _ _ h => h) (by rfl) hHeld ?_ ?_
  rotate_left
  focus (intro w hSw; have hSc := HSS.out w hSw; clear hSw; go_simp; first | done | with_reducible rfl)
  try simp only [Act.put, List.setIfInBounds_toArray, List.set_cons_zero, List.set_cons_succ]
  refine held_on (i := 14) (d := (some 19)) (v := ?_) rfl rfl (by kernel_rfl) (by kernel_rfl) (by kernel_rfl) (fun _ _ _ h => h) (by rfl) hHeld ?_ ?_
  rotate_left
  focus (intro w hSw; have hSc := HSS.out w hSw; clear hSw; go_simp; first | done | with_reducible rfl)
  try simp only [Act.put, List.setIfInBounds_toArray, List.set_cons_zero, List.set_cons_succ]
  refine held_call (i := 15) (by kernel_rfl) rfl (by rfl) (fun K hK => ?_)
  go_simp
  (refine (known27 _).mono ?_; rintro e we ⟨rfl, hbe⟩)
  refine hK.out _ _ (bw_know hHeld hbe hHeld.size) (fun hHeld => ?_)
  clear hK K
  try simp only [Act.put, List.setIfInBounds_toArray, List.set_cons_zero, List.set_cons_succ]
  refine held_on (i := 16) (d := (some 21)) (v := ?_) rfl rfl (by kernel_rfl) (by kernel_rfl) (by kernel_rfl) (fun _ _ _ h => h) (by rfl) hHeld ?_ ?_
  rotate_left
  focus (intro w hSw; have hSc := HSS.out w hSw; clear hSw; go_simp; first | done | with_reducible rfl)
  try simp only [Act.put, List.setIfInBounds_toArray, List.set_cons_zero, List.set_cons_succ]
  refine held_on (i := 17) (d := (some 4)) (v := ?_) rfl rfl (by kernel_rfl) (by kernel_rfl) (by kernel_rfl) (fun _ _ _ h => h) (by rfl) hHeld ?_ ?_
  rotate_left
  focus (intro w hSw; have hSc := HSS.out w hSw; clear hSw; go_simp; first | done | with_reducible rfl)
  try simp only [Act.put, List.setIfInBounds_toArray, List.set_cons_zero, List.set_cons_succ]
  refine wpAnyH_done (by kernel_rfl) ?_ _
  go_wp2_with fail
  go_ret
  exact ⟨rfl, HX0.out.below.trans (hHeld.mono HX0.out.size)⟩
end Go.Proofs.YtohajcflklejjaaGreat
