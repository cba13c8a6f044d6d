/- LogNil: what is answered of no log, and of one without a ring. -/
import Derived.Test.YtpapoalgocmlaaaLogAll
namespace Go.Proofs.Ytpapoalgocmlaaa
open Go.RowKit Go.Shelf
set_option linter.unusedVariables false
set_option linter.unusedSimpArgs false
attribute [local go_sem] Oper.semAt_some

/-- No log, or one without a ring. -/
inductive NoL (w : World) : Option Addr → Prop
  | nil : NoL w none
  | zero (Z : Nat) (h : Blk w Z 71 #[.slice none 0 0, .int .u64 0, .int .i64 0]) : NoL w (some ⟨Z, 0, none⟩)
theorem NoL.ext {w w' : World} {p : Option Addr} (h : NoL w p) (he : Ext w w') : NoL w' p := by
  cases h with
  | nil => exact .nil
  | zero Z h => exact .zero Z (h.ext he)
theorem NoL.below {w w' : World} {p : Option Addr} (h : NoL w p) (he : Below w.heap.size w w') : NoL w' p := by
  cases h with
  | nil => exact .nil
  | zero Z h => exact .zero Z (h.agree (Agree.of_below he (F := Lt w.heap.size) fun _ h => h) h.lt)

theorem len_no {w : World} {p : Option Addr} (h : NoL w p) : Calls Try.prog 30 #[.pointer p] w fun e w' => e = .returned (.int .i64 0) ∧ w = w' := by
  cases h with
  | nil =>
    go_enter Try.func30, Try.ntmps30
    go_wp2
    go_ret
    exact ⟨rfl, rfl⟩
  | zero Z h =>
    obtain ⟨-, -, h2⟩ := h.c3
    clear h
    go_enter Try.func30, Try.ntmps30
    go_wp2
    go_ret
    exact ⟨rfl, rfl⟩
theorem newest_no {w : World} {p : Option Addr} (h : NoL w p) : Calls Try.prog 32 #[.pointer p] w fun e w' => e = .returned (.tuple #[.int .u64 0, .bool false]) ∧ w = w' := by
  have hc := len_no h
  clear h
  go_enter Try.func32, Try.ntmps32
  go_wp2_with fail
  refine hc.mono ?_
  rintro e w' ⟨rfl, rfl⟩
  go_wp2_with fail
  go_ret2
  exact ⟨rfl, rfl⟩
theorem oldest_no {w : World} {p : Option Addr} (h : NoL w p) : Calls Try.prog 43 #[.pointer p] w fun e w' => e = .returned (.tuple #[.int .u64 0, .bool false]) ∧ w = w' := by
  have hc := len_no h
  clear h
  go_enter Try.func43, Try.ntmps43
  go_wp2_with fail
  refine hc.mono ?_
  rintro e w' ⟨rfl, rfl⟩
  go_wp2_with fail
  go_ret2
  exact ⟨rfl, rfl⟩
set_option maxRecDepth 100000 in
theorem at_no {w : World} {p : Option Addr} (h : NoL w p) (v : Int) : Calls Try.prog 34 #[.pointer p, .int .u64 v] w fun e w' => e = .returned (.tuple #[.agg #[.pointer none], .bool false]) ∧ Ext w w' := by
  have hx1 : Ext w (w.alloc (.cells #[.pointer none] 30)) := (Ext.refl w).alloc _ _
  have hb1 := Blk.new w 30 #[.pointer none]
  have hc := oldest_no (h.ext hx1)
  have r0 := hb1.cell 0
  have f0 := hb1.frozen 0
  have l0 := hb1.lt
  have HX := Lib.hid hx1
  clear h hx1 hb1
  go_enter Try.func34, Try.ntmps34
  go_wp2_with fail
  refine hc.mono ?_
  rintro e w' ⟨rfl, rfl⟩
  generalize w.alloc (.cells #[.pointer none] 30) = W1 at *
  go_wp2_with fail
  have q0 : (W1.setCell ⟨w.heap.size, 0, none⟩ (.pointer none)).cell? ⟨w.heap.size, 0, none⟩ = some (.pointer none) := World.cell?_setCell_same W1 _ _ r0
  refine bodyPost_ret (v := .tuple #[.agg #[.pointer none], .bool false]) (by simp [results, Try.results34, go_sem, q0]) rfl ?_
  exact ⟨rfl, HX.out.set2 (Nat.le_refl _) _ _⟩
set_option maxRecDepth 100000 in
theorem since_no {w : World} {p : Option Addr} (h : NoL w p) (v : Int) : Calls Try.prog 44 #[.pointer p, .int .u64 v] w fun e w' => e = .returned (.tuple #[.int .u64 0, .bool false]) ∧ Ext w w' := by
  have hx1 : Ext w (w.alloc (.cells #[.int .u64 v] 22)) := (Ext.refl w).alloc _ _
  have hc := at_no (h.ext hx1) v
  have HX := Lib.hid hx1
  clear h hx1
  go_enter Try.func44, Try.ntmps44
  go_wp2_with fail
  refine hc.mono ?_
  rintro e w2 ⟨rfl, hx2⟩
  have HX2 := Lib.hid (HX.out.trans hx2)
  clear hx2
  go_wp2_with fail
  go_ret2
  exact ⟨rfl, HX2.out.alloc _ _⟩
theorem copy_nil (w : World) : Calls Try.prog 45 #[.pointer none] w fun e w' => e = .returned (.pointer none) ∧ w = w' := by
  go_enter Try.func45, Try.ntmps45
  go_wp2_with fail
  go_ret
  exact ⟨rfl, rfl⟩
theorem put_no {w : World} {p : Option Addr} (h : NoL w p) (v : Int) (t : Value) : Calls Try.prog 29 #[.pointer p, .int .u64 v, .agg #[t]] w fun e w' => e = .returned (.int .i64 1) ∧ Ext w w' := by
  cases h with
  | nil =>
    go_enter Try.func29, Try.ntmps29
    go_wp2_with fail
    go_ret
    exact ⟨rfl, (Ext.refl w).alloc _ _⟩
  | zero Z h =>
    obtain ⟨h0, -, -⟩ := (h.ext ((Ext.refl w).alloc #[t] 30)).c3
    have hl := h.lt
    clear h
    go_enter Try.func29, Try.ntmps29
    go_wp2_with fail
    go_ret
    exact ⟨rfl, (Ext.refl w).alloc _ _⟩

set_option maxRecDepth 100000 in
set_option maxHeartbeats 4000000 in
theorem lognil_w (w : World) : Calls Try.prog 8 #[] w fun e w' => e = .returned (.bool true) ∧ Below w.heap.size w w' := by
  refine (callsIn_wide (n := 6)).1 ?_
  refine callsIn_of_wp_marks Try.func8 rfl trivial ?_ rfl
  simp only [Try.ntmps8, List.size_toArray, List.length_cons, List.length_nil, Nat.reduceAdd, Nat.reduceSub, Array.replicate_succ, Array.replicate_zero, List.push_toArray, List.append_toArray, List.nil_append, List.cons_append]
  gi_wp2_with fail
  have hx0 : Ext w (w.alloc (.cells #[.slice none 0 0, .int .u64 0, .int .i64 0] 71)) := (Ext.refl w).alloc _ _
  have HZ0 := Lib.hid (NoL.zero _ (Blk.new w 71 #[.slice none 0 0, .int .u64 0, .int .i64 0]))
  generalize w.alloc (.cells #[.slice none 0 0, .int .u64 0, .int .i64 0] 71) = w0 at *
  refine ⟨trivial, ?_⟩
  refine (callsIn_wide.2 (trees_any w0)).mono ?_
  rintro e w1 ⟨T, a, b, c, d, rfl, hT, -, -, -, hTg, hx1⟩
  have c1 : w1.cell? ⟨T, 1, none⟩ = some (.pointer (some ⟨a, 0, none⟩)) := hT.cell 1
  have hTl := hT.lt
  have HZ1 := Lib.hid (HZ0.out.ext hx1)
  have HX1 := Lib.hid (hx0.trans hx1)
  clear hT hx0 hx1
  gi_wp2_with fail
  have hx2 : Ext w1 (w1.alloc (.cells #[.pointer (some ⟨a, 0, none⟩)] 30)) := (Ext.refl w1).alloc _ _
  have HT2 := Lib.hid (Blk.new w1 30 #[.pointer (some ⟨a, 0, none⟩)])
  have HZ2 := Lib.hid (HZ1.out.ext hx2)
  have HX2 := Lib.hid (HX1.out.trans hx2)
  generalize w1.alloc (.cells #[.pointer (some ⟨a, 0, none⟩)] 30) = w2 at *
  clear hx2 c1 hTl hTg
  refine ⟨trivial, ?_⟩
  refine (callsIn_wide.2 (at_no (NoL.nil (w := w2)) 0)).mono ?_
  rintro e w3 ⟨rfl, hx3⟩
  have HT3 := Lib.hid (HT2.out.ext hx3)
  have HZ3 := Lib.hid (HZ2.out.ext hx3)
  have HX3 := Lib.hid (HX2.out.trans hx3)
  clear hx3
  gi_wp2_with fail
  have hx4 : Ext w3 (w3.alloc (.cells #[.pointer none] 30)) := (Ext.refl w3).alloc _ _
  have HT4 := Lib.hid (HT3.out.ext hx4)
  have HZ4 := Lib.hid (HZ3.out.ext hx4)
  have HX4 := Lib.hid (HX3.out.trans hx4)
  generalize w3.alloc (.cells #[.pointer none] 30) = w4 at *
  clear hx4
  refine ⟨trivial, ?_⟩
  refine (callsIn_wide.2 (newest_no (NoL.nil (w := w4)))).mono ?_
  rintro e w5 ⟨rfl, rfl⟩
  gi_wp2_with fail
  refine ⟨trivial, ?_⟩
  refine (callsIn_wide.2 (oldest_no (NoL.nil (w := w4)))).mono ?_
  rintro e w5 ⟨rfl, rfl⟩
  gi_wp2_with fail
  refine ⟨trivial, ?_⟩
  refine (callsIn_wide.2 (since_no (NoL.nil (w := w4)) 0)).mono ?_
  rintro e w5 ⟨rfl, hx5⟩
  have HT5 := Lib.hid (HT4.out.ext hx5)
  have HZ5 := Lib.hid (HZ4.out.ext hx5)
  have HX5 := Lib.hid (HX4.out.trans hx5)
  clear hx5
  gi_wp2_with fail
  refine ⟨trivial, ?_⟩
  refine (callsIn_wide.2 (at_no HZ5.out 0)).mono ?_
  rintro e w6 ⟨rfl, hx6⟩
  have HT6 := Lib.hid (HT5.out.ext hx6)
  have HZ6 := Lib.hid (HZ5.out.ext hx6)
  have HX6 := Lib.hid (HX5.out.trans hx6)
  clear hx6
  gi_wp2_with fail
  have hx7 : Ext w6 ((w6.alloc (.cells #[.pointer none] 30)).alloc (.cells #[.int .i64 0] 3)) := ((Ext.refl w6).alloc _ _).alloc _ _
  have hn7 : Blk ((w6.alloc (.cells #[.pointer none] 30)).alloc (.cells #[.int .i64 0] 3)) (w6.heap.size + 1) 3 #[.int .i64 0] := by
    have := Blk.new (w6.alloc (.cells #[.pointer none] 30)) 3 #[.int .i64 0]
    rwa [World.size_alloc] at this
  have HT7 := Lib.hid (HT6.out.ext hx7)
  have HZ7 := Lib.hid (HZ6.out.ext hx7)
  have HX7 := Lib.hid (HX6.out.trans hx7)
  have HN7 := Lib.hid hn7
  generalize (w6.alloc (.cells #[.pointer none] 30)).alloc (.cells #[.int .i64 0] 3) = w7 at *
  clear hx7 hn7
  refine ⟨trivial, ?_⟩
  refine (callsIn_wide.2 (all_value w7 none)).mono ?_
  rintro e w8 ⟨rfl, rfl⟩
  have hx8 : Ext w7 (w7.alloc (.cells #[.pointer none] 23)) := (Ext.refl w7).alloc _ _
  have HB8 := Lib.hid (Blk.new w7 23 #[.pointer none])
  have HT8 := Lib.hid (HT7.out.ext hx8)
  have HZ8 := Lib.hid (HZ7.out.ext hx8)
  have HX8 := Lib.hid (HX7.out.trans hx8)
  have HN8 := Lib.hid (HN7.out.ext hx8)
  generalize w7.alloc (.cells #[.pointer none] 23) = w8 at *
  clear hx8
  gi_wp2_with fail
  refine ⟨trivial, ?_⟩
  refine (callsIn_wide.2 (all_value w8 _)).mono ?_
  rintro e w9 ⟨rfl, rfl⟩
  have hx9 : Ext w8 (w8.alloc (.cells #[.pointer (some ⟨w.heap.size, 0, none⟩)] 23)) := (Ext.refl w8).alloc _ _
  have HC9 := Lib.hid (Blk.new w8 23 #[.pointer (some ⟨w.heap.size, 0, none⟩)])
  have HB9 := Lib.hid (HB8.out.ext hx9)
  have HT9 := Lib.hid (HT8.out.ext hx9)
  have HZ9 := Lib.hid (HZ8.out.ext hx9)
  have HX9 := Lib.hid (HX8.out.trans hx9)
  have HN9 := Lib.hid (HN8.out.ext hx9)
  generalize w8.alloc (.cells #[.pointer (some ⟨w.heap.size, 0, none⟩)] 23) = w9 at *
  clear hx9 HZ0 HZ1 HZ2 HZ3 HZ4 HZ5 HZ6 HZ7 HZ8 HX1 HX2 HX3 HX4 HX5 HX6 HX7 HX8 HT2 HT3 HT4 HT5 HT6 HT7 HT8 HN7 HN8 HB8
  have hnf1 := fun W => eql_func_nil (P := Try.prog) W (.func 96) #[] #[.pointer (some ⟨w7.heap.size, 0, none⟩)] Try.underlying59
  have hnf2 := fun W => eql_func_nil (P := Try.prog) W (.func 96) #[] #[.pointer (some ⟨w8.heap.size, 0, none⟩)] Try.underlying59
  have hw1 : IntKind.i64.wrap 1 = 1 := by decide
  gi_wp2_with fail
  have HST := Lib.hid (all_empty (w := w9) none (fun W hW => (oldest_no (NoL.nil (w := W))).mono fun e w' ⟨h1, h2⟩ => ⟨h1, h2 ▸ Ext.refl W⟩) w7.heap.size (HB9.out.cell 0) HB9.out.lt (6 - 1) (by decide))
  refine wpIn_rangeFunc_ownF rfl (by decide) (gf := 96) (lb := #[.pointer (some ⟨w7.heap.size, 0, none⟩)]) rfl trivial (enters_of Try.func96 (by kernel_rfl) rfl)
    HST.out belowK_t (belowK_b (Nat.le_refl _)) (Below.refl _ _) (fun _ => rfl)
    (fun _ V => Below w9.heap.size w9 V) (fun _ _ _ => False) (ownFrom_below (Nat.le_refl _) (Nat.le_refl _)) (fun _ _ _ _ _ hs _ _ => hs)
    (Below.refl _ _)
    ?a1x ?assignx ?bodyx ?donex ?stopx
  case assignx =>
    intro l x W K hK
    have HK := Lib.hid hK
    clear hK
    gi_wp2_with fail
    exact HK.out
  case bodyx =>
    rintro l pre x W hB hlen
    exact absurd hlen (Nat.not_lt_zero _)
  case stopx =>
    rintro D c pre W _ _ h _
    exact h.elim
  case donex =>
    rintro D ys W hD hys hB hK
    have HZW := Lib.hid (HZ9.out.below hB)
    have HTW := Lib.hid (HT9.out.agree (Agree.of_below hB (F := Lt w9.heap.size) fun _ h => h) HT9.out.lt)
    have HNW := Lib.hid (HN9.out.agree (Agree.of_below hB (F := Lt w9.heap.size) fun _ h => h) HN9.out.lt)
    have HCW := Lib.hid (HC9.out.agree (Agree.of_below hB (F := Lt w9.heap.size) fun _ h => h) HC9.out.lt)
    have HBX := Lib.hid (HX9.out.below.trans (hB.mono HX9.out.size))
    have hDl : D < W.heap.size := (Array.getElem?_eq_some_iff.1 hK).1
    have hsW := hB.size
    have HK := Lib.hid hK
    have HST2 := Lib.hid (all_empty (w := W) (some ⟨w.heap.size, 0, none⟩) (fun W' hW' => (oldest_no (HZW.out.below hW')).mono fun e w' ⟨h1, h2⟩ => ⟨h1, h2 ▸ Ext.refl W'⟩) w8.heap.size (HCW.out.cell 0) HCW.out.lt (6 - 1) (by decide))
    clear hys hB hK HST
    gi_wp2_with fail
    refine wpIn_rangeFunc_ownF rfl (by decide) (gf := 96) (lb := #[.pointer (some ⟨w8.heap.size, 0, none⟩)]) rfl trivial (enters_of Try.func96 (by kernel_rfl) rfl)
      HST2.out belowK_t (belowK_b (Nat.le_refl _)) (Below.refl _ _) (fun _ => rfl)
      (fun _ V => Below W.heap.size W V) (fun _ _ _ => False) (ownFrom_below (Nat.le_refl _) (Nat.le_refl _)) (fun _ _ _ _ _ hs _ _ => hs)
      (Below.refl _ _)
      ?a1y ?assigny ?bodyy ?doney ?stopy
    case assigny =>
      intro l x W K hK
      have HK := Lib.hid hK
      clear hK
      gi_wp2_with fail
      exact HK.out
    case bodyy =>
      rintro l pre x W hB hlen
      exact absurd hlen (Nat.not_lt_zero _)
    case stopy =>
      rintro D c pre W _ _ h _
      exact h.elim
    case doney =>
      rintro D2 ys W2 hD2 hys hB hK2
      have HZ2 := Lib.hid (HZW.out.below hB)
      have HT2 := Lib.hid (HTW.out.agree (Agree.of_below hB (F := Lt W.heap.size) fun _ h => h) HTW.out.lt)
      have hn2 := (HNW.out.agree (Agree.of_below hB (F := Lt W.heap.size) fun _ h => h) HNW.out.lt).cell 0
      have HBX2 := Lib.hid (HBX.out.trans (hB.mono HBX.out.size))
      have hD2l : D2 < W2.heap.size := (Array.getElem?_eq_some_iff.1 hK2).1
      have HD1 := Lib.hid ((hB.block D hDl).trans HK.out)
      have hD1l : D < W2.heap.size := Nat.lt_of_lt_of_le hDl hB.size
      have HD2 := Lib.hid hK2
      have ht2 := HT2.out.cell 0
      clear hys hB hK2 HST2
      gi_wp2_with fail
      refine ⟨trivial, ?_⟩
      refine (callsIn_wide.2 (len_no (NoL.nil (w := W2)))).mono ?_
      rintro e W3 ⟨rfl, rfl⟩
      gi_wp2_with fail
      refine ⟨trivial, ?_⟩
      refine (callsIn_wide.2 (len_no HZ2.out)).mono ?_
      rintro e W3 ⟨rfl, rfl⟩
      gi_wp2_with fail
      refine ⟨trivial, ?_⟩
      refine (callsIn_wide.2 (copy_nil W2)).mono ?_
      rintro e W3 ⟨rfl, rfl⟩
      gi_wp2_with fail
      refine ⟨trivial, ?_⟩
      refine (callsIn_wide.2 (put_no (NoL.nil (w := W2)) 1 _)).mono ?_
      rintro e W3 ⟨rfl, hx3⟩
      have ht3 := (HT2.out.ext hx3).cell 0
      have HT3 := Lib.hid (HT2.out.ext hx3)
      have HZ3 := Lib.hid (HZ2.out.ext hx3)
      have HX3 := Lib.hid hx3
      clear hx3
      gi_wp2_with fail
      refine ⟨trivial, ?_⟩
      refine (callsIn_wide.2 (put_no HZ3.out 9223372036854775808 _)).mono ?_
      rintro e W4 ⟨rfl, hx4⟩
      have HX4 := Lib.hid (HX3.out.trans hx4)
      clear hx4
      gi_wp2_with fail
      refine ⟨trivial, ?_⟩
      refine (callsIn_wide.2 (known19 W4)).mono ?_
      rintro e W5 ⟨rfl, hx5⟩
      have hX := HX4.out.trans hx5
      have h1 := (hX.heap hD1l).trans HD1.out
      have h2 := (hX.heap hD2l).trans HD2.out
      have hb6 := HBX2.out.trans (hX.below.mono HBX2.out.size)
      have hwD2 : W.heap.size ≤ D2 := hD2
      have hs9 := HX9.out.size
      clear hx5 hX
      gi_wp2_with fail
      have hwD : w.heap.size ≤ D := by omega
      have hne : D ≠ D2 := by omega
      refine ⟨by simp, .inl ⟨_, _, rfl, run_takeDeferred h2, ?_⟩⟩
      have h1' : (W5.putObj D2 (.deferred none)).heap[D]? = some (.deferred (some [])) := (World.putObj_heap_other hne).trans h1
      have hb7 := hb6.trans (belowK_b (w := w) (Nat.le_refl _) W5 D2 _ (.deferred none) (by omega) h2 rfl rfl)
      refine ⟨by simp, .inl ⟨_, _, rfl, run_takeDeferred h1', ?_⟩⟩
      have hb8 := hb7.trans (belowK_b (w := w) (Nat.le_refl _) _ D _ (.deferred none) hwD h1' rfl rfl)
      exact ⟨_, results_tmp rfl _ _ _, rfl, hb8⟩
end Go.Proofs.Ytpapoalgocmlaaa
