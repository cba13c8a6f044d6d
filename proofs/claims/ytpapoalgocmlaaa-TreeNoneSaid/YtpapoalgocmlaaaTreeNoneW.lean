/- TreeNone, the walk (written by gen/mknone.py). -/
import Derived.Test.YtpapoalgocmlaaaTreeNone
namespace Go.Proofs.Ytpapoalgocmlaaa
open Go.RowKit
set_option linter.unusedVariables false
set_option linter.unusedSimpArgs false
theorem box_cell {w w' : World} {b : Nat} {v : Value} (h : w.cell? ⟨b, 0, none⟩ = some v) (hl : b < w.heap.size) (hx : Ext w w') : w'.cell? ⟨b, 0, none⟩ = some v ∧ b < w'.heap.size := ⟨(hx.cell hl).trans h, Nat.lt_of_lt_of_le hl hx.size⟩
theorem box_new (w : World) (v : Value) (t : TypeId) : (w.alloc (.cells #[v] t)).cell? ⟨w.heap.size, 0, none⟩ = some v ∧ w.heap.size < (w.alloc (.cells #[v] t)).heap.size := ⟨(Blk.new w t #[v]).cell 0, by simp⟩
set_option maxRecDepth 100000 in
set_option maxHeartbeats 2000000 in
theorem treenone_w (w : World) : Calls Try.prog 22 #[] w fun e w' => e = .returned (.bool true) ∧ Ext w w' := by
  go_enter Try.func22, Try.ntmps22
  go_wp2_with fail
  have hx1 : Ext w (w.alloc (.cells #[.pointer none] 30)) := (Ext.refl w).alloc _ _
  obtain ⟨ca, la⟩ := box_new w (.pointer none) 30
  generalize hW : World.alloc _ _ = W1 at *
  clear hW
  generalize w.heap.size = bA at ca la
  have HX1 := Lib.hid hx1
  clear hx1
  refine (get_none W1).mono ?_
  rintro e w2 ⟨sl, so, rfl, hx⟩
  obtain ⟨ca, la⟩ := box_cell ca la hx
  have HX2 := Lib.hid (HX1.out.trans hx)
  clear hx HX1
  go_wp2_with fail
  have hx : Ext w2 (w2.alloc (.cells #[.int .i64 0, .bool false, .int .i64 0, .string ByteArray.empty, .slice sl.a 0 sl.c, .slice so.a 0 so.c] 49)) := (Ext.refl _).alloc _ _
  generalize hW : World.alloc _ _ = W3 at *
  clear hW
  obtain ⟨ca, la⟩ := box_cell ca la hx
  have HX3 := Lib.hid (HX2.out.trans hx)
  clear hx HX2
  refine (delete_none W3).mono ?_
  rintro e w4 ⟨rfl, hx⟩
  obtain ⟨ca, la⟩ := box_cell ca la hx
  have HX4 := Lib.hid (HX3.out.trans hx)
  clear hx HX3
  go_wp2_with fail
  have hx : Ext w4 (w4.alloc (.cells #[.pointer none] 30)) := (Ext.refl _).alloc _ _
  obtain ⟨cb, lb⟩ := box_new w4 (.pointer none) 30
  generalize hW : World.alloc _ _ = W5 at *
  clear hW
  obtain ⟨ca, la⟩ := box_cell ca la hx
  have HX5 := Lib.hid (HX4.out.trans hx)
  clear hx HX4
  generalize w4.heap.size = bB at cb lb ⊢
  refine (put_none W5).mono ?_
  rintro e w6 ⟨u, rfl, hu, hnu, hx⟩
  obtain ⟨ca, la⟩ := box_cell ca la hx
  obtain ⟨cb, lb⟩ := box_cell cb lb hx
  have ho : One0 w6.heap.size u w6 := ⟨hnu.mono fun i hi => hi.2, Nat.le_refl _, hu⟩
  have HX6 := Lib.hid (HX5.out.trans hx)
  have HO := Lib.hid ho
  clear hx HX5 ho hnu
  go_wp2_with fail
  have hx : Ext w6 (w6.alloc (.cells #[.pointer (some ⟨addr 0 u, 0, none⟩)] 30)) := (Ext.refl _).alloc _ _
  obtain ⟨cc, lc⟩ := box_new w6 (.pointer (some ⟨addr 0 u, 0, none⟩)) 30
  generalize hW : World.alloc _ _ = W7 at *
  clear hW
  obtain ⟨ca, la⟩ := box_cell ca la hx
  obtain ⟨cb, lb⟩ := box_cell cb lb hx
  have HO7 := Lib.hid (HO.out.ext hx)
  have HX7 := Lib.hid (HX6.out.trans hx)
  clear hx HX6 HO
  generalize w6.heap.size = bC at cc lc ⊢
  have hcd := HO7.out.delete
  refine hcd.mono ?_
  rintro e w8 ⟨rfl, hx⟩
  obtain ⟨ca, la⟩ := box_cell ca la hx
  obtain ⟨cb, lb⟩ := box_cell cb lb hx
  obtain ⟨cc, lc⟩ := box_cell cc lc hx
  have HO8 := Lib.hid (HO7.out.ext hx)
  have HX8 := Lib.hid (HX7.out.trans hx)
  clear hx HX7 HO7 hcd
  go_wp2_with fail
  have hx : Ext w8 (w8.alloc (.cells #[.pointer none] 30)) := (Ext.refl _).alloc _ _
  obtain ⟨cd, ld⟩ := box_new w8 (.pointer none) 30
  generalize hW : World.alloc _ _ = W9 at *
  clear hW
  obtain ⟨ca, la⟩ := box_cell ca la hx
  obtain ⟨cb, lb⟩ := box_cell cb lb hx
  obtain ⟨cc, lc⟩ := box_cell cc lc hx
  have HO9 := Lib.hid (HO8.out.ext hx)
  have HX9 := Lib.hid (HX8.out.trans hx)
  clear hx HX8 HO8
  generalize w8.heap.size = bD at cd ld ⊢
  go_wp2_with fail
  refine wp_region_held_drew (S := (fun w' => w'.cell? ⟨bA, 0, none⟩ = some (.pointer none) ∧ w'.cell? ⟨bB, 0, none⟩ = some (.pointer none) ∧ w'.cell? ⟨bC, 0, none⟩ = some (.pointer (some ⟨addr 0 u, 0, none⟩)) ∧ w'.cell? ⟨bD, 0, none⟩ = some (.pointer none))) (by kernel_rfl) (⟨ca, cb, cc, cd⟩) (fun hHeld => ?_)
  have HX9 := Lib.hid HX9.out.drew
  have HO9 := Lib.hid (HO9.out.ext ((Ext.refl W9).drew))
  clear ca cb cc cd
  refine held_on (i := 0) (d := (some 27)) (v := ?_) rfl rfl (by kernel_rfl) (by kernel_rfl) (by kernel_rfl) (fun _ _ _ h => h) (by rfl) hHeld ?_ ?_
  rotate_left
  focus (intro w hSw; (try dsimp only at hSw); go_simp; first | done | with_reducible rfl)
  try simp only [Act.put, List.setIfInBounds_toArray, List.set_cons_zero, List.set_cons_succ]
  refine held_on (i := 1) (d := (some 28)) (v := ?_) rfl rfl (by kernel_rfl) (by kernel_rfl) (by kernel_rfl) (fun _ _ _ h => h) (by rfl) hHeld ?_ ?_
  rotate_left
  focus (intro w hSw; (try dsimp only at hSw); go_simp; first | done | with_reducible rfl)
  try simp only [Act.put, List.setIfInBounds_toArray, List.set_cons_zero, List.set_cons_succ]
  refine held_on (i := 2) (d := (some 29)) (v := ?_) rfl rfl (by kernel_rfl) (by kernel_rfl) (by kernel_rfl) (fun _ _ _ h => h) (by rfl) hHeld ?_ ?_
  rotate_left
  focus (intro w hSw; (try dsimp only at hSw); go_simp; first | done | with_reducible rfl)
  try simp only [Act.put, List.setIfInBounds_toArray, List.set_cons_zero, List.set_cons_succ]
  refine held_on (i := 3) (d := (some 30)) (v := ?_) rfl rfl (by kernel_rfl) (by kernel_rfl) (by kernel_rfl) (fun _ _ _ h => h) (by rfl) hHeld ?_ ?_
  rotate_left
  focus (intro w hSw; (try dsimp only at hSw); go_simp; first | done | with_reducible rfl)
  try simp only [Act.put, List.setIfInBounds_toArray, List.set_cons_zero, List.set_cons_succ]
  refine held_on (i := 4) (d := (some 31)) (v := ?_) rfl rfl (by kernel_rfl) (by kernel_rfl) (by kernel_rfl) (fun _ _ _ h => h) (by rfl) hHeld ?_ ?_
  rotate_left
  focus (intro w hSw; (try dsimp only at hSw); go_simp; first | done | with_reducible rfl)
  try simp only [Act.put, List.setIfInBounds_toArray, List.set_cons_zero, List.set_cons_succ]
  refine held_on (i := 5) (d := (some 32)) (v := ?_) rfl rfl (by kernel_rfl) (by kernel_rfl) (by kernel_rfl) (fun _ _ _ h => h) (by rfl) hHeld ?_ ?_
  rotate_left
  focus (intro w hSw; (try dsimp only at hSw); go_simp; first | done | with_reducible rfl)
  try simp only [Act.put, List.setIfInBounds_toArray, List.set_cons_zero, List.set_cons_succ]
  refine held_on (i := 6) (d := (some 33)) (v := ?_) rfl rfl (by kernel_rfl) (by kernel_rfl) (by kernel_rfl) (fun _ _ _ h => h) (by rfl) hHeld ?_ ?_
  rotate_left
  focus (intro w hSw; (try dsimp only at hSw); go_simp; first | done | with_reducible rfl)
  try simp only [Act.put, List.setIfInBounds_toArray, List.set_cons_zero, List.set_cons_succ]
  refine held_on (i := 7) (d := (some 34)) (v := ?_) rfl rfl (by kernel_rfl) (by kernel_rfl) (by kernel_rfl) (fun _ _ _ h => h) (by rfl) hHeld ?_ ?_
  rotate_left
  focus (intro w hSw; (try dsimp only at hSw); go_simp; first | done | with_reducible rfl)
  try simp only [Act.put, List.setIfInBounds_toArray, List.set_cons_zero, List.set_cons_succ]
  refine held_on (i := 8) (d := (some 35)) (v := ?_) rfl rfl (by kernel_rfl) (by kernel_rfl) (by kernel_rfl) (fun _ _ _ h => h) (by rfl) hHeld ?_ ?_
  rotate_left
  focus (intro w hSw; (try dsimp only at hSw); go_simp; first | done | with_reducible rfl)
  try simp only [Act.put, List.setIfInBounds_toArray, List.set_cons_zero, List.set_cons_succ]
  refine held_call (i := 9) (by kernel_rfl) rfl (by rfl) (fun K hK => ?_)
  go_simp
  (refine (is_same _ none).mono ?_; rintro e w10 ⟨rfl, hx⟩; have HO10 := Lib.hid (HO9.out.ext hx); have HX10 := Lib.hid (HX9.out.trans hx); have hS := (⟨(hx.cell (o := 0) la).trans hHeld.1, (hx.cell (o := 0) lb).trans hHeld.2.1, (hx.cell (o := 0) lc).trans hHeld.2.2.1, (hx.cell (o := 0) ld).trans hHeld.2.2.2⟩ : _ ∧ _ ∧ _ ∧ _); replace la := Nat.lt_of_lt_of_le la hx.size; replace lb := Nat.lt_of_lt_of_le lb hx.size; replace lc := Nat.lt_of_lt_of_le lc hx.size; replace ld := Nat.lt_of_lt_of_le ld hx.size; clear hx HX9 HO9)
  refine hK.out _ _ (hS) (fun hHeld => ?_)
  clear hK K
  try simp only [Act.put, List.setIfInBounds_toArray, List.set_cons_zero, List.set_cons_succ]
  clear hS
  refine held_on (i := 10) (d := (some 37)) (v := ?_) rfl rfl (by kernel_rfl) (by kernel_rfl) (by kernel_rfl) (fun _ _ _ h => h) (by rfl) hHeld ?_ ?_
  rotate_left
  focus (intro w hSw; (try dsimp only at hSw); go_simp; first | done | with_reducible rfl)
  try simp only [Act.put, List.setIfInBounds_toArray, List.set_cons_zero, List.set_cons_succ]
  refine held_on (i := 11) (d := (some 38)) (v := ?_) rfl rfl (by kernel_rfl) (by kernel_rfl) (by kernel_rfl) (fun _ _ _ h => h) (by rfl) hHeld ?_ ?_
  rotate_left
  focus (intro w hSw; (try dsimp only at hSw); go_simp; first | done | with_reducible rfl)
  try simp only [Act.put, List.setIfInBounds_toArray, List.set_cons_zero, List.set_cons_succ]
  refine held_on (i := 12) (d := (some 39)) (v := ?_) rfl rfl (by kernel_rfl) (by kernel_rfl) (by kernel_rfl) (fun _ _ _ h => h) (by rfl) hHeld ?_ ?_
  rotate_left
  focus (intro w hSw; (try dsimp only at hSw); go_simp; first | done | with_reducible rfl)
  try simp only [Act.put, List.setIfInBounds_toArray, List.set_cons_zero, List.set_cons_succ]
  refine held_call (i := 13) (by kernel_rfl) rfl (by rfl) (fun K hK => ?_)
  go_simp
  (refine (treeRoot_any _ (.pointer none)).mono ?_; rintro e w11 ⟨rfl, hx⟩; have HO11 := Lib.hid (HO10.out.ext hx); have HX11 := Lib.hid (HX10.out.trans hx); have hS := (⟨(hx.cell (o := 0) la).trans hHeld.1, (hx.cell (o := 0) lb).trans hHeld.2.1, (hx.cell (o := 0) lc).trans hHeld.2.2.1, (hx.cell (o := 0) ld).trans hHeld.2.2.2⟩ : _ ∧ _ ∧ _ ∧ _); replace la := Nat.lt_of_lt_of_le la hx.size; replace lb := Nat.lt_of_lt_of_le lb hx.size; replace lc := Nat.lt_of_lt_of_le lc hx.size; replace ld := Nat.lt_of_lt_of_le ld hx.size; clear hx HX10 HO10)
  refine hK.out _ _ (hS) (fun hHeld => ?_)
  clear hK K
  try simp only [Act.put, List.setIfInBounds_toArray, List.set_cons_zero, List.set_cons_succ]
  clear hS
  refine held_on (i := 14) (d := (some 41)) (v := ?_) rfl rfl (by kernel_rfl) (by kernel_rfl) (by kernel_rfl) (fun _ _ _ h => h) (by rfl) hHeld ?_ ?_
  rotate_left
  focus (intro w hSw; (try dsimp only at hSw); go_simp; first | done | with_reducible rfl)
  try simp only [Act.put, List.setIfInBounds_toArray, List.set_cons_zero, List.set_cons_succ]
  refine held_on (i := 15) (d := (some 42)) (v := ?_) rfl rfl (by kernel_rfl) (by kernel_rfl) (by kernel_rfl) (fun _ _ _ h => h) (by rfl) hHeld ?_ ?_
  rotate_left
  focus (intro w hSw; (try dsimp only at hSw); go_simp; first | done | with_reducible rfl)
  try simp only [Act.put, List.setIfInBounds_toArray, List.set_cons_zero, List.set_cons_succ]
  refine held_on (i := 16) (d := (some 43)) (v := ?_) rfl rfl (by kernel_rfl) (by kernel_rfl) (by kernel_rfl) (fun _ _ _ h => h) (by rfl) hHeld ?_ ?_
  rotate_left
  focus (intro w hSw; (try dsimp only at hSw); go_simp; first | done | with_reducible rfl)
  try simp only [Act.put, List.setIfInBounds_toArray, List.set_cons_zero, List.set_cons_succ]
  refine held_on (i := 17) (d := (some 44)) (v := ?_) rfl rfl (by kernel_rfl) (by kernel_rfl) (by kernel_rfl) (fun _ _ _ h => h) (by rfl) hHeld ?_ ?_
  rotate_left
  focus (intro w hSw; (try dsimp only at hSw); go_simp; first | done | with_reducible rfl)
  try simp only [Act.put, List.setIfInBounds_toArray, List.set_cons_zero, List.set_cons_succ]
  refine held_call (i := 18) (by kernel_rfl) rfl (by rfl) (fun K hK => ?_)
  go_simp
  (refine (len_none _).mono ?_; rintro e w12 ⟨rfl, hx⟩; have HO12 := Lib.hid (HO11.out.ext hx); have HX12 := Lib.hid (HX11.out.trans hx); have hS := (⟨(hx.cell (o := 0) la).trans hHeld.1, (hx.cell (o := 0) lb).trans hHeld.2.1, (hx.cell (o := 0) lc).trans hHeld.2.2.1, (hx.cell (o := 0) ld).trans hHeld.2.2.2⟩ : _ ∧ _ ∧ _ ∧ _); replace la := Nat.lt_of_lt_of_le la hx.size; replace lb := Nat.lt_of_lt_of_le lb hx.size; replace lc := Nat.lt_of_lt_of_le lc hx.size; replace ld := Nat.lt_of_lt_of_le ld hx.size; clear hx HX11 HO11)
  refine hK.out _ _ (hS) (fun hHeld => ?_)
  clear hK K
  try simp only [Act.put, List.setIfInBounds_toArray, List.set_cons_zero, List.set_cons_succ]
  clear hS
  refine held_on (i := 19) (d := (some 46)) (v := ?_) rfl rfl (by kernel_rfl) (by kernel_rfl) (by kernel_rfl) (fun _ _ _ h => h) (by rfl) hHeld ?_ ?_
  rotate_left
  focus (intro w hSw; (try dsimp only at hSw); go_simp; first | done | with_reducible rfl)
  try simp only [Act.put, List.setIfInBounds_toArray, List.set_cons_zero, List.set_cons_succ]
  refine held_on (i := 20) (d := (some 47)) (v := ?_) rfl rfl (by kernel_rfl) (by kernel_rfl) (by kernel_rfl) (fun _ _ _ h => h) (by rfl) hHeld ?_ ?_
  rotate_left
  focus (intro w hSw; (try dsimp only at hSw); go_simp; first | done | with_reducible rfl)
  try simp only [Act.put, List.setIfInBounds_toArray, List.set_cons_zero, List.set_cons_succ]
  refine held_on (i := 21) (d := (some 48)) (v := ?_) rfl rfl (by kernel_rfl) (by kernel_rfl) (by kernel_rfl) (fun _ _ _ h => h) (by rfl) hHeld ?_ ?_
  rotate_left
  focus (intro w hSw; (try dsimp only at hSw); go_simp; first | done | with_reducible rfl)
  try simp only [Act.put, List.setIfInBounds_toArray, List.set_cons_zero, List.set_cons_succ]
  refine held_on (i := 22) (d := (some 49)) (v := ?_) rfl rfl (by kernel_rfl) (by kernel_rfl) (by kernel_rfl) (fun _ _ _ h => h) (by rfl) hHeld ?_ ?_
  rotate_left
  focus (intro w hSw; (try dsimp only at hSw); go_simp; first | done | with_reducible rfl)
  try simp only [Act.put, List.setIfInBounds_toArray, List.set_cons_zero, List.set_cons_succ]
  refine held_call (i := 23) (by kernel_rfl) rfl (by rfl) (fun K hK => ?_)
  go_simp
  (refine (entries_none _).mono ?_; rintro e w13 ⟨s, rfl, hx⟩; have HO13 := Lib.hid (HO12.out.ext hx); have HX13 := Lib.hid (HX12.out.trans hx); have hS := (⟨(hx.cell (o := 0) la).trans hHeld.1, (hx.cell (o := 0) lb).trans hHeld.2.1, (hx.cell (o := 0) lc).trans hHeld.2.2.1, (hx.cell (o := 0) ld).trans hHeld.2.2.2⟩ : _ ∧ _ ∧ _ ∧ _); replace la := Nat.lt_of_lt_of_le la hx.size; replace lb := Nat.lt_of_lt_of_le lb hx.size; replace lc := Nat.lt_of_lt_of_le lc hx.size; replace ld := Nat.lt_of_lt_of_le ld hx.size; clear hx HX12 HO12)
  refine hK.out _ _ (hS) (fun hHeld => ?_)
  clear hK K
  try simp only [Act.put, List.setIfInBounds_toArray, List.set_cons_zero, List.set_cons_succ]
  clear hS
  refine held_on (i := 24) (d := (some 51)) (v := ?_) rfl rfl (by kernel_rfl) (by kernel_rfl) (by kernel_rfl) (fun _ _ _ h => h) (by rfl) hHeld ?_ ?_
  rotate_left
  focus (intro w hSw; (try dsimp only at hSw); go_simp; first | done | with_reducible rfl)
  try simp only [Act.put, List.setIfInBounds_toArray, List.set_cons_zero, List.set_cons_succ]
  refine held_on (i := 25) (d := (some 52)) (v := ?_) rfl rfl (by kernel_rfl) (by kernel_rfl) (by kernel_rfl) (fun _ _ _ h => h) (by rfl) hHeld ?_ ?_
  rotate_left
  focus (intro w hSw; (try dsimp only at hSw); go_simp; first | done | with_reducible rfl)
  try simp only [Act.put, List.setIfInBounds_toArray, List.set_cons_zero, List.set_cons_succ]
  refine held_on (i := 26) (d := (some 53)) (v := ?_) rfl rfl (by kernel_rfl) (by kernel_rfl) (by kernel_rfl) (fun _ _ _ h => h) (by rfl) hHeld ?_ ?_
  rotate_left
  focus (intro w hSw; (try dsimp only at hSw); go_simp; first | done | with_reducible rfl)
  try simp only [Act.put, List.setIfInBounds_toArray, List.set_cons_zero, List.set_cons_succ]
  refine held_on (i := 27) (d := (some 54)) (v := ?_) rfl rfl (by kernel_rfl) (by kernel_rfl) (by kernel_rfl) (fun _ _ _ h => h) (by rfl) hHeld ?_ ?_
  rotate_left
  focus (intro w hSw; (try dsimp only at hSw); go_simp; first | done | with_reducible rfl)
  try simp only [Act.put, List.setIfInBounds_toArray, List.set_cons_zero, List.set_cons_succ]
  refine held_on (i := 28) (d := (some 55)) (v := ?_) rfl rfl (by kernel_rfl) (by kernel_rfl) (by kernel_rfl) (fun _ _ _ h => h) (by rfl) hHeld ?_ ?_
  rotate_left
  focus (intro w hSw; (try dsimp only at hSw); go_simp; first | done | with_reducible rfl)
  try simp only [Act.put, List.setIfInBounds_toArray, List.set_cons_zero, List.set_cons_succ]
  refine held_call (i := 29) (by kernel_rfl) rfl (by rfl) (fun K hK => ?_)
  go_simp
  (refine (HO13.out.len).mono ?_; rintro e w14 ⟨rfl, hx⟩; have HO14 := Lib.hid (HO13.out.ext hx); have HX14 := Lib.hid (HX13.out.trans hx); have hS := (⟨(hx.cell (o := 0) la).trans hHeld.1, (hx.cell (o := 0) lb).trans hHeld.2.1, (hx.cell (o := 0) lc).trans hHeld.2.2.1, (hx.cell (o := 0) ld).trans hHeld.2.2.2⟩ : _ ∧ _ ∧ _ ∧ _); replace la := Nat.lt_of_lt_of_le la hx.size; replace lb := Nat.lt_of_lt_of_le lb hx.size; replace lc := Nat.lt_of_lt_of_le lc hx.size; replace ld := Nat.lt_of_lt_of_le ld hx.size; clear hx HX13 HO13)
  refine hK.out _ _ (hS) (fun hHeld => ?_)
  clear hK K
  try simp only [Act.put, List.setIfInBounds_toArray, List.set_cons_zero, List.set_cons_succ]
  clear hS
  refine held_on (i := 30) (d := (some 57)) (v := ?_) rfl rfl (by kernel_rfl) (by kernel_rfl) (by kernel_rfl) (fun _ _ _ h => h) (by rfl) hHeld ?_ ?_
  rotate_left
  focus (intro w hSw; (try dsimp only at hSw); go_simp; first | done | with_reducible rfl)
  try simp only [Act.put, List.setIfInBounds_toArray, List.set_cons_zero, List.set_cons_succ]
  refine held_on (i := 31) (d := (some 58)) (v := ?_) rfl rfl (by kernel_rfl) (by kernel_rfl) (by kernel_rfl) (fun _ _ _ h => h) (by rfl) hHeld ?_ ?_
  rotate_left
  focus (intro w hSw; (try dsimp only at hSw); go_simp; first | done | with_reducible rfl)
  try simp only [Act.put, List.setIfInBounds_toArray, List.set_cons_zero, List.set_cons_succ]
  refine held_on (i := 32) (d := (some 59)) (v := ?_) rfl rfl (by kernel_rfl) (by kernel_rfl) (by kernel_rfl) (fun _ _ _ h => h) (by rfl) hHeld ?_ ?_
  rotate_left
  focus (intro w hSw; (try dsimp only at hSw); go_simp; first | done | with_reducible rfl)
  try simp only [Act.put, List.setIfInBounds_toArray, List.set_cons_zero, List.set_cons_succ]
  refine held_on (i := 33) (d := (some 60)) (v := ?_) rfl rfl (by kernel_rfl) (by kernel_rfl) (by kernel_rfl) (fun _ _ _ h => h) (by rfl) hHeld ?_ ?_
  rotate_left
  focus (intro w hSw; (try dsimp only at hSw); go_simp; first | done | with_reducible rfl)
  try simp only [Act.put, List.setIfInBounds_toArray, List.set_cons_zero, List.set_cons_succ]
  refine held_on (i := 34) (d := (some 61)) (v := ?_) rfl rfl (by kernel_rfl) (by kernel_rfl) (by kernel_rfl) (fun _ _ _ h => h) (by rfl) hHeld ?_ ?_
  rotate_left
  focus (intro w hSw; (try dsimp only at hSw); go_simp; first | done | with_reducible rfl)
  try simp only [Act.put, List.setIfInBounds_toArray, List.set_cons_zero, List.set_cons_succ]
  refine held_on (i := 35) (d := (some 62)) (v := ?_) rfl rfl (by kernel_rfl) (by kernel_rfl) (by kernel_rfl) (fun _ _ _ h => h) (by rfl) hHeld ?_ ?_
  rotate_left
  focus (intro w hSw; (try dsimp only at hSw); go_simp; first | done | with_reducible rfl)
  try simp only [Act.put, List.setIfInBounds_toArray, List.set_cons_zero, List.set_cons_succ]
  refine held_on (i := 36) (d := (some 63)) (v := ?_) rfl rfl (by kernel_rfl) (by kernel_rfl) (by kernel_rfl) (fun _ _ _ h => h) (by rfl) hHeld ?_ ?_
  rotate_left
  focus (intro w hSw; (try dsimp only at hSw); go_simp; first | done | with_reducible rfl)
  try simp only [Act.put, List.setIfInBounds_toArray, List.set_cons_zero, List.set_cons_succ]
  refine held_on (i := 37) (d := (some 64)) (v := ?_) rfl rfl (by kernel_rfl) (by kernel_rfl) (by kernel_rfl) (fun _ _ _ h => h) (by rfl) hHeld ?_ ?_
  rotate_left
  focus (intro w hSw; (try dsimp only at hSw); go_simp; first | done | with_reducible rfl)
  try simp only [Act.put, List.setIfInBounds_toArray, List.set_cons_zero, List.set_cons_succ]
  refine held_call (i := 38) (by kernel_rfl) rfl (by rfl) (fun K hK => ?_)
  go_simp
  (refine (is_same _ none).mono ?_; rintro e w15 ⟨rfl, hx⟩; have HO15 := Lib.hid (HO14.out.ext hx); have HX15 := Lib.hid (HX14.out.trans hx); have hS := (⟨(hx.cell (o := 0) la).trans hHeld.1, (hx.cell (o := 0) lb).trans hHeld.2.1, (hx.cell (o := 0) lc).trans hHeld.2.2.1, (hx.cell (o := 0) ld).trans hHeld.2.2.2⟩ : _ ∧ _ ∧ _ ∧ _); replace la := Nat.lt_of_lt_of_le la hx.size; replace lb := Nat.lt_of_lt_of_le lb hx.size; replace lc := Nat.lt_of_lt_of_le lc hx.size; replace ld := Nat.lt_of_lt_of_le ld hx.size; clear hx HX14 HO14)
  refine hK.out _ _ (hS) (fun hHeld => ?_)
  clear hK K
  try simp only [Act.put, List.setIfInBounds_toArray, List.set_cons_zero, List.set_cons_succ]
  clear hS
  refine held_on (i := 39) (d := (some 66)) (v := ?_) rfl rfl (by kernel_rfl) (by kernel_rfl) (by kernel_rfl) (fun _ _ _ h => h) (by rfl) hHeld ?_ ?_
  rotate_left
  focus (intro w hSw; (try dsimp only at hSw); go_simp; first | done | with_reducible rfl)
  try simp only [Act.put, List.setIfInBounds_toArray, List.set_cons_zero, List.set_cons_succ]
  refine held_on (i := 40) (d := (some 67)) (v := ?_) rfl rfl (by kernel_rfl) (by kernel_rfl) (by kernel_rfl) (fun _ _ _ h => h) (by rfl) hHeld ?_ ?_
  rotate_left
  focus (intro w hSw; (try dsimp only at hSw); go_simp; first | done | with_reducible rfl)
  try simp only [Act.put, List.setIfInBounds_toArray, List.set_cons_zero, List.set_cons_succ]
  refine held_on (i := 41) (d := (some 68)) (v := ?_) rfl rfl (by kernel_rfl) (by kernel_rfl) (by kernel_rfl) (fun _ _ _ h => h) (by rfl) hHeld ?_ ?_
  rotate_left
  focus (intro w hSw; (try dsimp only at hSw); go_simp; first | done | with_reducible rfl)
  try simp only [Act.put, List.setIfInBounds_toArray, List.set_cons_zero, List.set_cons_succ]
  refine held_on (i := 42) (d := (some 69)) (v := ?_) rfl rfl (by kernel_rfl) (by kernel_rfl) (by kernel_rfl) (fun _ _ _ h => h) (by rfl) hHeld ?_ ?_
  rotate_left
  focus (intro w hSw; (try dsimp only at hSw); go_simp; first | done | with_reducible rfl)
  try simp only [Act.put, List.setIfInBounds_toArray, List.set_cons_zero, List.set_cons_succ]
  refine held_call (i := 43) (by kernel_rfl) rfl (by rfl) (fun K hK => ?_)
  go_simp
  (refine (same_is _ none).mono ?_; rintro e w16 ⟨rfl, hx⟩; have HO16 := Lib.hid (HO15.out.ext hx); have HX16 := Lib.hid (HX15.out.trans hx); have hS := (⟨(hx.cell (o := 0) la).trans hHeld.1, (hx.cell (o := 0) lb).trans hHeld.2.1, (hx.cell (o := 0) lc).trans hHeld.2.2.1, (hx.cell (o := 0) ld).trans hHeld.2.2.2⟩ : _ ∧ _ ∧ _ ∧ _); replace la := Nat.lt_of_lt_of_le la hx.size; replace lb := Nat.lt_of_lt_of_le lb hx.size; replace lc := Nat.lt_of_lt_of_le lc hx.size; replace ld := Nat.lt_of_lt_of_le ld hx.size; clear hx HX15 HO15)
  refine hK.out _ _ (hS) (fun hHeld => ?_)
  clear hK K
  try simp only [Act.put, List.setIfInBounds_toArray, List.set_cons_zero, List.set_cons_succ]
  clear hS
  refine held_on (i := 44) (d := (some 71)) (v := ?_) rfl rfl (by kernel_rfl) (by kernel_rfl) (by kernel_rfl) (fun _ _ _ h => h) (by rfl) hHeld ?_ ?_
  rotate_left
  focus (intro w hSw; (try dsimp only at hSw); go_simp; first | done | with_reducible rfl)
  try simp only [Act.put, List.setIfInBounds_toArray, List.set_cons_zero, List.set_cons_succ]
  refine held_on (i := 45) (d := (some 72)) (v := ?_) rfl rfl (by kernel_rfl) (by kernel_rfl) (by kernel_rfl) (fun _ _ _ h => h) (by rfl) hHeld ?_ ?_
  rotate_left
  focus (intro w hSw; (try dsimp only at hSw); go_simp; first | done | with_reducible rfl)
  try simp only [Act.put, List.setIfInBounds_toArray, List.set_cons_zero, List.set_cons_succ]
  refine held_on (i := 46) (d := (some 73)) (v := ?_) rfl rfl (by kernel_rfl) (by kernel_rfl) (by kernel_rfl) (fun _ _ _ h => h) (by rfl) hHeld ?_ ?_
  rotate_left
  focus (intro w hSw; (try dsimp only at hSw); go_simp; first | done | with_reducible rfl)
  try simp only [Act.put, List.setIfInBounds_toArray, List.set_cons_zero, List.set_cons_succ]
  refine held_on (i := 47) (d := (some 74)) (v := ?_) rfl rfl (by kernel_rfl) (by kernel_rfl) (by kernel_rfl) (fun _ _ _ h => h) (by rfl) hHeld ?_ ?_
  rotate_left
  focus (intro w hSw; (try dsimp only at hSw); go_simp; first | done | with_reducible rfl)
  try simp only [Act.put, List.setIfInBounds_toArray, List.set_cons_zero, List.set_cons_succ]
  refine held_call (i := 48) (by kernel_rfl) rfl (by rfl) (fun K hK => ?_)
  go_simp
  (refine (HO16.out.same).mono ?_; rintro e w17 ⟨rfl, hx⟩; have HO17 := Lib.hid (HO16.out.ext hx); have HX17 := Lib.hid (HX16.out.trans hx); have hS := (⟨(hx.cell (o := 0) la).trans hHeld.1, (hx.cell (o := 0) lb).trans hHeld.2.1, (hx.cell (o := 0) lc).trans hHeld.2.2.1, (hx.cell (o := 0) ld).trans hHeld.2.2.2⟩ : _ ∧ _ ∧ _ ∧ _); replace la := Nat.lt_of_lt_of_le la hx.size; replace lb := Nat.lt_of_lt_of_le lb hx.size; replace lc := Nat.lt_of_lt_of_le lc hx.size; replace ld := Nat.lt_of_lt_of_le ld hx.size; clear hx HX16 HO16)
  refine hK.out _ _ (hS) (fun hHeld => ?_)
  clear hK K
  try simp only [Act.put, List.setIfInBounds_toArray, List.set_cons_zero, List.set_cons_succ]
  clear hS
  refine held_on (i := 49) (d := (some 76)) (v := ?_) rfl rfl (by kernel_rfl) (by kernel_rfl) (by kernel_rfl) (fun _ _ _ h => h) (by rfl) hHeld ?_ ?_
  rotate_left
  focus (intro w hSw; (try dsimp only at hSw); go_simp; first | done | with_reducible rfl)
  try simp only [Act.put, List.setIfInBounds_toArray, List.set_cons_zero, List.set_cons_succ]
  refine held_on (i := 50) (d := (some 77)) (v := ?_) rfl rfl (by kernel_rfl) (by kernel_rfl) (by kernel_rfl) (fun _ _ _ h => h) (by rfl) hHeld ?_ ?_
  rotate_left
  focus (intro w hSw; (try dsimp only at hSw); go_simp; first | done | with_reducible rfl)
  try simp only [Act.put, List.setIfInBounds_toArray, List.set_cons_zero, List.set_cons_succ]
  refine held_on (i := 51) (d := (some 78)) (v := ?_) rfl rfl (by kernel_rfl) (by kernel_rfl) (by kernel_rfl) (fun _ _ _ h => h) (by rfl) hHeld ?_ ?_
  rotate_left
  focus (intro w hSw; (try dsimp only at hSw); go_simp; first | done | with_reducible rfl)
  try simp only [Act.put, List.setIfInBounds_toArray, List.set_cons_zero, List.set_cons_succ]
  refine held_on (i := 52) (d := (some 79)) (v := ?_) rfl rfl (by kernel_rfl) (by kernel_rfl) (by kernel_rfl) (fun _ _ _ h => h) (by rfl) hHeld ?_ ?_
  rotate_left
  focus (intro w hSw; (try dsimp only at hSw); go_simp; first | done | with_reducible rfl)
  try simp only [Act.put, List.setIfInBounds_toArray, List.set_cons_zero, List.set_cons_succ]
  refine held_on (i := 53) (d := (some 80)) (v := ?_) rfl rfl (by kernel_rfl) (by kernel_rfl) (by kernel_rfl) (fun _ _ _ h => h) (by rfl) hHeld ?_ ?_
  rotate_left
  focus (intro w hSw; (try dsimp only at hSw); go_simp; first | done | with_reducible rfl)
  try simp only [Act.put, List.setIfInBounds_toArray, List.set_cons_zero, List.set_cons_succ]
  refine held_call (i := 54) (by kernel_rfl) rfl (by rfl) (fun K hK => ?_)
  go_simp
  (refine (HO17.out.fresh1).mono ?_; rintro e w18 ⟨rfl, hx⟩; have HO18 := Lib.hid (HO17.out.ext hx); have HX18 := Lib.hid (HX17.out.trans hx); have hS := (⟨(hx.cell (o := 0) la).trans hHeld.1, (hx.cell (o := 0) lb).trans hHeld.2.1, (hx.cell (o := 0) lc).trans hHeld.2.2.1, (hx.cell (o := 0) ld).trans hHeld.2.2.2⟩ : _ ∧ _ ∧ _ ∧ _); replace la := Nat.lt_of_lt_of_le la hx.size; replace lb := Nat.lt_of_lt_of_le lb hx.size; replace lc := Nat.lt_of_lt_of_le lc hx.size; replace ld := Nat.lt_of_lt_of_le ld hx.size; clear hx HX17 HO17)
  refine hK.out _ _ (hS) (fun hHeld => ?_)
  clear hK K
  try simp only [Act.put, List.setIfInBounds_toArray, List.set_cons_zero, List.set_cons_succ]
  clear hS
  refine held_on (i := 55) (d := (some 82)) (v := ?_) rfl rfl (by kernel_rfl) (by kernel_rfl) (by kernel_rfl) (fun _ _ _ h => h) (by rfl) hHeld ?_ ?_
  rotate_left
  focus (intro w hSw; (try dsimp only at hSw); go_simp; first | done | with_reducible rfl)
  try simp only [Act.put, List.setIfInBounds_toArray, List.set_cons_zero, List.set_cons_succ]
  refine held_on (i := 56) (d := (some 83)) (v := ?_) rfl rfl (by kernel_rfl) (by kernel_rfl) (by kernel_rfl) (fun _ _ _ h => h) (by rfl) hHeld ?_ ?_
  rotate_left
  focus (intro w hSw; (try dsimp only at hSw); go_simp; first | done | with_reducible rfl)
  try simp only [Act.put, List.setIfInBounds_toArray, List.set_cons_zero, List.set_cons_succ]
  refine held_on (i := 57) (d := (some 84)) (v := ?_) rfl rfl (by kernel_rfl) (by kernel_rfl) (by kernel_rfl) (fun _ _ _ h => h) (by rfl) hHeld ?_ ?_
  rotate_left
  focus (intro w hSw; (try dsimp only at hSw); go_simp; first | done | with_reducible rfl)
  try simp only [Act.put, List.setIfInBounds_toArray, List.set_cons_zero, List.set_cons_succ]
  refine held_on (i := 58) (d := (some 85)) (v := ?_) rfl rfl (by kernel_rfl) (by kernel_rfl) (by kernel_rfl) (fun _ _ _ h => h) (by rfl) hHeld ?_ ?_
  rotate_left
  focus (intro w hSw; (try dsimp only at hSw); go_simp; first | done | with_reducible rfl)
  try simp only [Act.put, List.setIfInBounds_toArray, List.set_cons_zero, List.set_cons_succ]
  refine held_on (i := 59) (d := (some 86)) (v := ?_) rfl rfl (by kernel_rfl) (by kernel_rfl) (by kernel_rfl) (fun _ _ _ h => h) (by rfl) hHeld ?_ ?_
  rotate_left
  focus (intro w hSw; (try dsimp only at hSw); go_simp; first | done | with_reducible rfl)
  try simp only [Act.put, List.setIfInBounds_toArray, List.set_cons_zero, List.set_cons_succ]
  refine held_call (i := 60) (by kernel_rfl) rfl (by rfl) (fun K hK => ?_)
  go_simp
  (refine (HO18.out.fresh0).mono ?_; rintro e w19 ⟨rfl, hx⟩; have HO19 := Lib.hid (HO18.out.ext hx); have HX19 := Lib.hid (HX18.out.trans hx); have hS := (⟨(hx.cell (o := 0) la).trans hHeld.1, (hx.cell (o := 0) lb).trans hHeld.2.1, (hx.cell (o := 0) lc).trans hHeld.2.2.1, (hx.cell (o := 0) ld).trans hHeld.2.2.2⟩ : _ ∧ _ ∧ _ ∧ _); replace la := Nat.lt_of_lt_of_le la hx.size; replace lb := Nat.lt_of_lt_of_le lb hx.size; replace lc := Nat.lt_of_lt_of_le lc hx.size; replace ld := Nat.lt_of_lt_of_le ld hx.size; clear hx HX18 HO18)
  refine hK.out _ _ (hS) (fun hHeld => ?_)
  clear hK K
  try simp only [Act.put, List.setIfInBounds_toArray, List.set_cons_zero, List.set_cons_succ]
  clear hS
  refine held_on (i := 61) (d := (some 88)) (v := ?_) rfl rfl (by kernel_rfl) (by kernel_rfl) (by kernel_rfl) (fun _ _ _ h => h) (by rfl) hHeld ?_ ?_
  rotate_left
  focus (intro w hSw; (try dsimp only at hSw); go_simp; first | done | with_reducible rfl)
  try simp only [Act.put, List.setIfInBounds_toArray, List.set_cons_zero, List.set_cons_succ]
  refine held_on (i := 62) (d := (some 89)) (v := ?_) rfl rfl (by kernel_rfl) (by kernel_rfl) (by kernel_rfl) (fun _ _ _ h => h) (by rfl) hHeld ?_ ?_
  rotate_left
  focus (intro w hSw; (try dsimp only at hSw); go_simp; first | done | with_reducible rfl)
  try simp only [Act.put, List.setIfInBounds_toArray, List.set_cons_zero, List.set_cons_succ]
  refine held_on (i := 63) (d := (some 90)) (v := ?_) rfl rfl (by kernel_rfl) (by kernel_rfl) (by kernel_rfl) (fun _ _ _ h => h) (by rfl) hHeld ?_ ?_
  rotate_left
  focus (intro w hSw; (try dsimp only at hSw); go_simp; first | done | with_reducible rfl)
  try simp only [Act.put, List.setIfInBounds_toArray, List.set_cons_zero, List.set_cons_succ]
  refine held_on (i := 65) (d := (some 92)) (v := ?_) rfl rfl (by kernel_rfl) (by kernel_rfl) (by kernel_rfl) (fun _ _ _ h => h) (by rfl) hHeld ?_ ?_
  rotate_left
  focus (intro w hSw; (try dsimp only at hSw); go_simp; first | done | with_reducible rfl)
  try simp only [Act.put, List.setIfInBounds_toArray, List.set_cons_zero, List.set_cons_succ]
  refine held_call (i := 64) (by kernel_rfl) rfl (by rfl) (fun K hK => ?_)
  go_simp
  (refine (build_none _).mono ?_; rintro e w20 ⟨rfl, hx⟩; have HO20 := Lib.hid (HO19.out.ext hx); have HX20 := Lib.hid (HX19.out.trans hx); have hS := (⟨(hx.cell (o := 0) la).trans hHeld.1, (hx.cell (o := 0) lb).trans hHeld.2.1, (hx.cell (o := 0) lc).trans hHeld.2.2.1, (hx.cell (o := 0) ld).trans hHeld.2.2.2⟩ : _ ∧ _ ∧ _ ∧ _); replace la := Nat.lt_of_lt_of_le la hx.size; replace lb := Nat.lt_of_lt_of_le lb hx.size; replace lc := Nat.lt_of_lt_of_le lc hx.size; replace ld := Nat.lt_of_lt_of_le ld hx.size; clear hx HX19 HO19)
  refine hK.out _ _ (hS) (fun hHeld => ?_)
  clear hK K
  try simp only [Act.put, List.setIfInBounds_toArray, List.set_cons_zero, List.set_cons_succ]
  clear hS
  refine held_call (i := 66) (by kernel_rfl) rfl (by rfl) (fun K hK => ?_)
  go_simp
  (refine (is_same _ none).mono ?_; rintro e w21 ⟨rfl, hx⟩; have HO21 := Lib.hid (HO20.out.ext hx); have HX21 := Lib.hid (HX20.out.trans hx); have hS := (⟨(hx.cell (o := 0) la).trans hHeld.1, (hx.cell (o := 0) lb).trans hHeld.2.1, (hx.cell (o := 0) lc).trans hHeld.2.2.1, (hx.cell (o := 0) ld).trans hHeld.2.2.2⟩ : _ ∧ _ ∧ _ ∧ _); replace la := Nat.lt_of_lt_of_le la hx.size; replace lb := Nat.lt_of_lt_of_le lb hx.size; replace lc := Nat.lt_of_lt_of_le lc hx.size; replace ld := Nat.lt_of_lt_of_le ld hx.size; clear hx HX20 HO20)
  refine hK.out _ _ (hS) (fun hHeld => ?_)
  clear hK K
  try simp only [Act.put, List.setIfInBounds_toArray, List.set_cons_zero, List.set_cons_succ]
  clear hS
  refine held_on (i := 67) (d := (some 94)) (v := ?_) rfl rfl (by kernel_rfl) (by kernel_rfl) (by kernel_rfl) (fun _ _ _ h => h) (by rfl) hHeld ?_ ?_
  rotate_left
  focus (intro w hSw; (try dsimp only at hSw); go_simp; first | done | with_reducible rfl)
  try simp only [Act.put, List.setIfInBounds_toArray, List.set_cons_zero, List.set_cons_succ]
  refine held_on (i := 68) (d := (some 95)) (v := ?_) rfl rfl (by kernel_rfl) (by kernel_rfl) (by kernel_rfl) (fun _ _ _ h => h) (by rfl) hHeld ?_ ?_
  rotate_left
  focus (intro w hSw; (try dsimp only at hSw); go_simp; first | done | with_reducible rfl)
  try simp only [Act.put, List.setIfInBounds_toArray, List.set_cons_zero, List.set_cons_succ]
  refine held_call (i := 69) (by kernel_rfl) rfl (by rfl) (fun K hK => ?_)
  go_simp
  (refine (known07 _).mono ?_; rintro e w22 ⟨rfl, hx⟩; have HO22 := Lib.hid (HO21.out.ext hx); have HX22 := Lib.hid (HX21.out.trans hx); have hS := (⟨(hx.cell (o := 0) la).trans hHeld.1, (hx.cell (o := 0) lb).trans hHeld.2.1, (hx.cell (o := 0) lc).trans hHeld.2.2.1, (hx.cell (o := 0) ld).trans hHeld.2.2.2⟩ : _ ∧ _ ∧ _ ∧ _); replace la := Nat.lt_of_lt_of_le la hx.size; replace lb := Nat.lt_of_lt_of_le lb hx.size; replace lc := Nat.lt_of_lt_of_le lc hx.size; replace ld := Nat.lt_of_lt_of_le ld hx.size; clear hx HX21 HO21)
  refine hK.out _ _ (hS) (fun hHeld => ?_)
  clear hK K
  try simp only [Act.put, List.setIfInBounds_toArray, List.set_cons_zero, List.set_cons_succ]
  clear hS
  refine held_on (i := 70) (d := (some 97)) (v := ?_) rfl rfl (by kernel_rfl) (by kernel_rfl) (by kernel_rfl) (fun _ _ _ h => h) (by rfl) hHeld ?_ ?_
  rotate_left
  focus (intro w hSw; (try dsimp only at hSw); go_simp; first | done | with_reducible rfl)
  try simp only [Act.put, List.setIfInBounds_toArray, List.set_cons_zero, List.set_cons_succ]
  refine held_on (i := 71) (d := (some 0)) (v := ?_) rfl rfl (by kernel_rfl) (by kernel_rfl) (by kernel_rfl) (fun _ _ _ h => h) (by rfl) hHeld ?_ ?_
  rotate_left
  focus (intro w hSw; (try dsimp only at hSw); go_simp; first | done | with_reducible rfl)
  try simp only [Act.put, List.setIfInBounds_toArray, List.set_cons_zero, List.set_cons_succ]
  refine wpAnyH_done (by kernel_rfl) ?_ _
  go_wp2_with fail
  go_ret
  exact ⟨rfl, HX22.out⟩
end Go.Proofs.Ytpapoalgocmlaaa
