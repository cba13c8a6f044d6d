/- slices.Insert of one element into an owned row (elements of 7 cells). Written by program for two element types. -/
import Derived.Test.YtpapoalgocmlaaaPlace
import Derived.Lib.Overlaps
import Derived.Deep.RegionLaw
import Derived.Lib.AppendZerosOnto
namespace Go.Proofs.Ytpapoalgocmlaaa
open Go.RowKit
set_option linter.unusedVariables false
set_option linter.unusedSimpArgs false

/-- What slices.Insert hands back. -/
def InsPostE (base : Nat) (s : Sl) (n i : Nat) (xs ys : List Value) (w : World) (e : Ending) (w' : World) : Prop :=
  ∃ s' : Sl, e = .returned (.slice s'.a (n + 1) s'.c) ∧ w'.ownsRow base 56 7 (.slice s'.a (n + 1) s'.c) (n + 1) (xs.take (i * 7) ++ ys ++ xs.drop (i * 7)) ∧ Wr w w' s.row ∧ (s'.row = s.row ∨ ∃ b, s'.row = some b ∧ w.heap.size ≤ b)

section
variable {w : World} {base n i : Nat} {s : Sl} {xs ys : List Value} {vb : Nat}
set_option maxRecDepth 100000 in
set_option maxHeartbeats 1000000 in
theorem insE_end (hown : w.ownsRow base 56 7 (.slice s.a n s.c) n xs) (hbase : base ≤ w.heap.size) (hn : n ≤ 1000) (hy : ys.length = 7) (hv : Blk w vb 56 ys.toArray) (h1 : ∀ u ∈ ys, u.oneCell' = true) :
    Calls Try.prog 134 #[.slice s.a n s.c, .int .i64 n, .slice (some ⟨vb, 0, none⟩) 1 1] w (InsPostE base s n n xs ys w) := by
  obtain ⟨i0, hi, hz0, hz1, hz2⟩ := info_parts Try.infoEntry
  have hsrc : Rd w (fun _ => True) 7 ⟨some ⟨vb, 0, none⟩, 1⟩ 1 ys := ⟨vb, 0, .some _ _ _ _ (Nat.le_refl _) (by decide) trivial, by simpa using hy, fun j u hj => by rw [hv.cell]; simpa using hj⟩
  have hxs : xs.take (n * 7) ++ ys ++ xs.drop (n * 7) = xs ++ ys := by
    rw [List.take_of_length_le (by rw [hown.1]; exact Nat.le_refl _), List.drop_eq_nil_of_le (by rw [hown.1]; exact Nat.le_refl _), List.append_nil]
  have HO := Lib.hid hown
  have HS := Lib.hid hsrc
  have H1 := Lib.hid h1
  have HX := Lib.hid hxs
  have h63 : n + 1 ≤ maxLen := by unfold maxLen; omega
  have hcap : n ≤ s.c := by
    rcases hown.2 with ⟨hv, h0⟩ | ⟨g, cap, cur, hv, _, _, hnc, _⟩
    · omega
    · simp only [Value.slice.injEq] at hv; omega
  have hnn : ((n : Int) == (n : Int)) = true := by simp
  clear hown hsrc hv h1 hy hxs
  obtain ⟨sa, sc⟩ := s
  dsimp only at *
  go_enter Try.func134, Try.ntmps134
  go_wp2_with (at_builtin; refine wpList_append_x _ rfl _ _ 53 rfl base 56 i0 (.agg #[.string ByteArray.empty, .int .i64 0, .bool false, .int .i64 0, .string ByteArray.empty, .slice none 0 0, .slice none 0 0]) 7 104 Try.underlying53 hi hz0 hz1 hz2 rfl (by decide) ⟨sa, sc⟩ n xs rfl HO.out (fun _ => True) ⟨some ⟨vb, 0, none⟩, 1⟩ 1 ys rfl HS.out H1.out h63 (by omega) hbase ?_; intro s' w1 hown1 hwr hs')
  all_goals
    go_ret
    refine ⟨s', by simp, by rw [HX.out]; exact hown1, hwr, ?_⟩
    rcases hs' with h | ⟨h, -⟩
    · exact .inl (by simp [Sl.row, h])
    · exact .inr ⟨w.heap.size, by simp [Sl.row, h], Nat.le_refl _⟩

set_option maxRecDepth 100000 in
set_option maxHeartbeats 1000000 in
theorem insE_shift {g cap : Nat} {cur : Array Value} (hxl : xs.length = n * 7) (hbg : base ≤ g) (hg : w.heap[g]? = some (.cells cur 56 (0, 0))) (hroom : n + 1 ≤ cap) (hcm : cap ≤ maxLen) (hcs : cur.size = cap * 7) (htake : cur.toList.take (n * 7) = xs)
    (hn : n ≤ 1000) (hin : i < n) (hy : ys.length = 7) (hv : Blk w vb 56 ys.toArray) (hvb : vb ≠ g) (h1 : ∀ u ∈ ys, u.oneCell' = true) (h1x : ∀ u ∈ xs, u.oneCell' = true) :
    Calls Try.prog 134 #[.slice (some ⟨g, 0, none⟩) n cap, .int .i64 i, .slice (some ⟨vb, 0, none⟩) 1 1] w (InsPostE base ⟨some ⟨g, 0, none⟩, cap⟩ n i xs ys w) := by
  obtain ⟨i0, hi, hz0, hz1, hz2⟩ := info_parts Try.infoEntry
  have hne : ((i : Int) == (n : Int)) = false := beq_eq_false_iff_ne.2 (by omega)
  have hin' : (i : Int) < (n : Int) := by omega
  have hr' : ¬ (cap : Int) < (n : Int) + 1 := by omega
  have hcm' : (cap : Int) ≤ 9223372036854775807 := by unfold maxLen at hcm; omega
  have hc1 : ¬ cap = i := by omega
  have hc2 : ¬ cap = i + 1 := by omega
  have hw1 : IntKind.i64.wrap ((i : Int) + 1) = (i : Int) + 1 := by rw [IntKind.wrap_i64]; omega
  have hb1 : (0 : Int) ≤ (i : Int) + 1 := by omega
  have htn : ((i : Int) + 1).toNat = i + 1 := by omega
  have hin1 : i ≤ n := by omega
  have hb3 : (i : Int) ≤ (n : Int) + 1 := by omega
  have hov : ∀ lb cb, (callFunc 168 #[.slice (some ⟨vb, 0, none⟩) 1 1, .slice (some ⟨g, (i + 1) * 7, none⟩) lb cb]).run Try.prog w = .ok (.value (.bool false)) w := fun lb cb => by
    rw [run_callFunc_extern Try.func168 (by kernel_rfl) (by kernel_rfl) (by kernel_rfl) (e := Extern.SlicesOverlaps.overlaps #[53, 53] #[4]) (by kernel_rfl),
      Lib.run_overlaps_apart w 53 4 56 Try.underlying53 7 (fun w => by simp [sizeOf, typeInfo, hi, hz1]) ⟨vb, 0, none⟩ ⟨g, (i + 1) * 7, none⟩ 1 1 lb cb hvb 56 56 ys.toArray.size cur.size (by simp [World.shape?, show w.heap[vb]? = some (.cells ys.toArray 56 (0, 0)) from hv]) (by simp [World.shape?, hg]) (by omega) (hv.frozen _) (hv.frozen _)]
    rfl
  have hd1 : (xs.drop (i * 7)).length = (n - i) * 7 := by rw [List.length_drop, hxl, ← Nat.sub_mul]
  have hxc : ∀ j v, (xs.drop (i * 7))[j]? = some v → w.drew.cell? ⟨g, i * 7 + j, none⟩ = some v := fun j v hj => by
    rw [World.cell?_drew, cell_of_row w g _ cur 56 (0, 0) hg]
    rw [List.getElem?_drop, ← htake, List.getElem?_take] at hj
    split at hj
    · simpa using hj
    · cases hj
  obtain ⟨A1, hA1⟩ : ∃ A1, A1 = (cur.toList.take ((i + 1) * 7) ++ xs.drop (i * 7) ++ cur.toList.drop ((i + 1) * 7 + (xs.drop (i * 7)).length)).toArray := ⟨_, rfl⟩
  obtain ⟨W1, hW1⟩ : ∃ W1, W1 = w.drew.setRow g A1 := ⟨_, rfl⟩
  have hcp1 : ∀ ty dc sc, (Builtin.copy_ #[53, 53] ty #[.slice (some ⟨g, (i + 1) * 7, none⟩) (n - i) dc, .slice (some ⟨g, i * 7, none⟩) (n + 1 - i) sc]).run Try.prog w.drew = .ok (goInt (Nat.min (n + 1 - i) (n - i))) W1 := fun ty dc sc => by
    rw [hW1, hA1]
    exact run_copy_x w.drew 53 53 ty 56 7 g ((i + 1) * 7) (n - i) dc ⟨some ⟨g, i * 7, none⟩, sc⟩ (n + 1 - i) cur 56 (xs.drop (i * 7)) Try.underlying53 (by rw [hi]; simp [hz1]) hg
      (by rw [hd1, show Nat.min (n + 1 - i) (n - i) = n - i from by simp only [Nat.min_def]; split <;> omega]) (by simp) (by rintro b o' ⟨⟩; exact hxc) (by rintro a ⟨⟩; rfl) (by rw [hd1]; omega) (fun u hu => h1x u (List.mem_of_mem_drop hu))
  have hs1 : A1.size = cur.size := by rw [hA1]; simp; omega
  have hg1 : W1.heap[g]? = some (.cells A1 56 (0, 0)) := by rw [hW1]; exact setRow_heap w.drew g cur A1 56 (0, 0) hg
  have hv1 : Blk W1 vb 56 ys.toArray := by rw [hW1]; exact (setRow_other w.drew g vb A1 hvb).trans hv
  obtain ⟨A2, hA2⟩ : ∃ A2, A2 = (A1.toList.take (i * 7) ++ ys ++ A1.toList.drop (i * 7 + ys.length)).toArray := ⟨_, rfl⟩
  obtain ⟨W2, hW2⟩ : ∃ W2, W2 = W1.setRow g A2 := ⟨_, rfl⟩
  have hcp2 : ∀ ty dc, (Builtin.copy_ #[53, 53] ty #[.slice (some ⟨g, i * 7, none⟩) (n + 1 - i) dc, .slice (some ⟨vb, 0, none⟩) 1 1]).run Try.prog W1 = .ok (goInt (Nat.min 1 (n + 1 - i))) W2 := fun ty dc => by
    rw [hW2, hA2]
    exact run_copy_x W1 53 53 ty 56 7 g (i * 7) (n + 1 - i) dc ⟨some ⟨vb, 0, none⟩, 1⟩ 1 A1 56 ys Try.underlying53 (by rw [hi]; simp [hz1]) hg1
      (by rw [hy, show Nat.min 1 (n + 1 - i) = 1 from by simp only [Nat.min_def]; split <;> omega]) (by simp) (by rintro b o' ⟨⟩; exact fun j v hj => by rw [hv1.cell]; simpa using hj) (by rintro a ⟨⟩; rfl) (by omega) h1
  have hg2 : W2.heap[g]? = some (.cells A2 56 (0, 0)) := by rw [hW2]; exact setRow_heap W1 g A1 A2 56 (0, 0) hg1
  have hwr : Wr w W2 (some g) := by
    rw [hW2, hW1]
    exact ((Wr.refl w (some g)).drew.trans (Wr.setRow w.drew A1) (fun i hi => .inl hi)).trans (Wr.setRow (w.drew.setRow g A1) A2) (fun i hi => .inl hi)
  have hfin : W2.ownsRow base 56 7 (.slice (some ⟨g, 0, none⟩) (n + 1) cap) (n + 1) (xs.take (i * 7) ++ ys ++ xs.drop (i * 7)) := by
    refine ⟨by simp [hxl, hy]; omega, .inr ⟨g, cap, A2, rfl, hbg, hg2, hroom, hcm, by rw [hA2]; simp; omega, ?_⟩⟩
    rw [hA2, hA1]
    exact shift_list cur.toList xs ys (i * 7) (n * 7) 7 _ _ _ _ _ htake.symm hy (by omega) (by rw [Array.length_toList]; omega) (by omega) rfl (by omega) (by omega) (by omega)
  have HF := Lib.hid hfin
  have HW := Lib.hid hwr
  clear hfin hwr hg2 hg1 hv1 hs1 hW2 hW1 hA2 hA1 hxc hd1 hg hv h1 h1x hxl htake hcs
  go_enter Try.func134, Try.ntmps134
  go_wp2_with (simp only [hov])
  go_region_law (refine step_copy_x _ rfl _ _ 53 53 rfl _ _ (by simp [Act.eval, Act.put]) (by simp [Act.eval, Act.put]) (hcp1 _ _ _) ?_)
  go_wp2_with (at_builtin; refine wpList_copy_x _ rfl _ _ 53 53 rfl _ _ rfl rfl (hcp2 _ _) ?_)
  go_ret
  exact ⟨⟨some ⟨g, 0, none⟩, cap⟩, rfl, HF.out, HW.out, .inl rfl⟩

set_option maxRecDepth 100000 in
set_option maxHeartbeats 2000000 in
theorem insE_grow {g cap : Nat} {cur : Array Value} (hxl : xs.length = n * 7) (hbase : base ≤ w.heap.size) (hg : w.heap[g]? = some (.cells cur 56 (0, 0))) (hnc : n ≤ cap) (hroom : cap < n + 1) (hcs : cur.size = cap * 7) (htake : cur.toList.take (n * 7) = xs)
    (hn : n ≤ 1000) (hin : i < n) (hy : ys.length = 7) (hv : Blk w vb 56 ys.toArray) (hvb : vb ≠ g) (h1 : ∀ u ∈ ys, u.oneCell' = true) (h1x : ∀ u ∈ xs, u.oneCell' = true) :
    Calls Try.prog 134 #[.slice (some ⟨g, 0, none⟩) n cap, .int .i64 i, .slice (some ⟨vb, 0, none⟩) 1 1] w (InsPostE base ⟨some ⟨g, 0, none⟩, cap⟩ n i xs ys w) := by
  obtain ⟨i0, hi, hz0, hz1, hz2⟩ := info_parts Try.infoEntry
  have hne : ((i : Int) == (n : Int)) = false := beq_eq_false_iff_ne.2 (by omega)
  have hin' : (i : Int) < (n : Int) := by omega
  have hr' : (cap : Int) < (n : Int) + 1 := by omega
  have hc1 : ¬ cap = i := by omega
  have hw1 : IntKind.i64.wrap ((i : Int) + 1) = (i : Int) + 1 := by rw [IntKind.wrap_i64]; omega
  have hb1 : (0 : Int) ≤ (i : Int) + 1 := by omega
  have htn : ((i : Int) + 1).toNat = i + 1 := by omega
  have hin1 : i ≤ n := by omega
  have hb3 : (i : Int) ≤ (n : Int) := by omega
  have hb4 : (i : Int) + 1 ≤ (n : Int) + 1 := by omega
  have hgl : g < w.heap.size := lt_of_block hg
  have hvl : vb < w.heap.size := hv.lt
  obtain ⟨G, hG⟩ : ∃ G, G = grownCap w (n + 1) cap 56 := ⟨_, rfl⟩
  have hGn : n + 1 ≤ G := by rw [hG]; exact grownCap_ge w _ _ _
  have hG63 : G ≤ 9223372036854775807 := by
    have := grownCap_le_maxLen w (n + 1) cap 56 (by unfold maxLen; omega)
    rw [← hG] at this
    unfold maxLen at this
    omega
  have hik : i + (n + 1 - i) = n + 1 := by omega
  obtain ⟨ROW, hROW⟩ : ∃ ROW : Array Value, ROW = (xs.take (i * 7)).toArray ++ Builtin.zeroCells ((.agg #[.string ByteArray.empty, .int .i64 0, .bool false, .int .i64 0, .string ByteArray.empty, .slice none 0 0, .slice none 0 0]) : Value).cells (n + 1 - i) ++ Builtin.zeroCells ((.agg #[.string ByteArray.empty, .int .i64 0, .bool false, .int .i64 0, .string ByteArray.empty, .slice none 0 0, .slice none 0 0]) : Value).cells (G - (n + 1)) := ⟨_, rfl⟩
  have hRs : ROW.size = G * 7 := by
    rw [hROW]
    simp only [Array.size_append, List.size_toArray, size_zeroCells, List.length_take, hxl]
    rw [show ((.agg #[.string ByteArray.empty, .int .i64 0, .bool false, .int .i64 0, .string ByteArray.empty, .slice none 0 0, .slice none 0 0]) : Value).cells.size = 7 from rfl]
    omega
  have hRt : ROW.toList.take (i * 7) = xs.take (i * 7) := by
    rw [hROW]
    simp only [Array.toList_append, List.append_assoc]
    rw [List.take_append_of_le_length (by simp [hxl]; omega), List.take_of_length_le (by simp; omega)]
  obtain ⟨W1, hW1⟩ : ∃ W1, W1 = w.drew.alloc (.cells ROW 56) := ⟨_, rfl⟩
  have hrz : ∀ ty, (Builtin.append_ #[53, 3] ty #[.slice (some ⟨g, 0, none⟩) i cap, .int .i64 ((n : Int) + 1 - (i : Int))]).run Try.prog w = .ok (.slice (some ⟨w.heap.size, 0, none⟩) (n + 1) G) W1 := fun ty => by
    have hold : (Builtin.firstCells i0.size i (.slice (some ⟨g, 0, none⟩) i cap)).run Try.prog w.drew = .ok (xs.take (i * 7)).toArray w.drew := by
      rw [hz1]
      exact run_firstCells_some w.drew 7 i ⟨g, 0, none⟩ i cap (xs.take (i * 7)) (by rw [List.length_take]; omega) (fun j v hj => by
        rw [add_at, Nat.zero_add, World.cell?_drew, cell_of_row w g _ cur 56 (0, 0) hg]
        rw [List.getElem?_take] at hj
        split at hj
        · rw [← htake, List.getElem?_take] at hj
          split at hj
          · simpa using hj
          · cases hj
        · cases hj)
    have h := Lib.run_append_grow_zeros w 53 3 ty 56 i0 _ .i64 .i64 Try.underlying53 Try.underlying3 hi hz0 (some ⟨g, 0, none⟩) i cap (xs.take (i * 7)) hold (n + 1 - i) (by omega) (by omega) (by omega) (by omega) (by rw [hz2]; omega) (by rw [hz2, hik]; exact growslice_fits hroom (by omega))
    rw [hik, ← hG, ← hROW, ← hW1] at h
    rw [show (n : Int) + 1 - (i : Int) = ((n + 1 - i : Nat) : Int) from by omega]
    exact h
  have hg1 : W1.heap[w.heap.size]? = some (.cells ROW 56 (0, 0)) := by rw [hW1]; exact heap_alloc_new w.drew _
  have hb1o : ∀ k, k < w.heap.size → W1.heap[k]? = w.heap[k]? := fun k hk => by rw [hW1]; exact Below.heap_alloc w.drew _ k hk
  have hv1 : Blk W1 vb 56 ys.toArray := (hb1o vb hvl).trans hv
  obtain ⟨A1, hA1⟩ : ∃ A1, A1 = (ROW.toList.take (i * 7) ++ ys ++ ROW.toList.drop (i * 7 + ys.length)).toArray := ⟨_, rfl⟩
  have hs1 : A1.size = G * 7 := by rw [hA1]; simp; omega
  obtain ⟨W2, hW2⟩ : ∃ W2, W2 = W1.setRow w.heap.size A1 := ⟨_, rfl⟩
  have hcpA : ∀ ty dc, (Builtin.copy_ #[53, 53] ty #[.slice (some ⟨w.heap.size, i * 7, none⟩) (n + 1 - i) dc, .slice (some ⟨vb, 0, none⟩) 1 1]).run Try.prog W1 = .ok (goInt (Nat.min 1 (n + 1 - i))) W2 := fun ty dc => by
    rw [hW2, hA1]
    exact run_copy_x W1 53 53 ty 56 7 w.heap.size (i * 7) (n + 1 - i) dc ⟨some ⟨vb, 0, none⟩, 1⟩ 1 ROW 56 ys Try.underlying53 (by rw [hi]; simp [hz1]) hg1
      (by rw [hy, show Nat.min 1 (n + 1 - i) = 1 from by simp only [Nat.min_def]; split <;> omega]) (by simp) (by rintro b o' ⟨⟩; exact fun j v hj => by rw [hv1.cell]; simpa using hj) (by rintro a ⟨⟩; rfl) (by omega) h1
  have hg2 : W2.heap[w.heap.size]? = some (.cells A1 56 (0, 0)) := by rw [hW2]; exact setRow_heap W1 _ ROW A1 56 (0, 0) hg1
  have hb2o : ∀ k, k < w.heap.size → W2.heap[k]? = w.heap[k]? := fun k hk => by rw [hW2]; exact (setRow_other W1 _ k A1 (by omega)).trans (hb1o k hk)
  have hd1 : (xs.drop (i * 7)).length = (n - i) * 7 := by rw [List.length_drop, hxl, ← Nat.sub_mul]
  have hxc : ∀ j v, (xs.drop (i * 7))[j]? = some v → W2.drew.cell? ⟨g, i * 7 + j, none⟩ = some v := fun j v hj => by
    rw [World.cell?_drew, cell_of_row W2 g _ cur 56 (0, 0) ((hb2o g hgl).trans hg)]
    rw [List.getElem?_drop, ← htake, List.getElem?_take] at hj
    split at hj
    · simpa using hj
    · cases hj
  obtain ⟨A2, hA2⟩ : ∃ A2, A2 = (A1.toList.take ((i + 1) * 7) ++ xs.drop (i * 7) ++ A1.toList.drop ((i + 1) * 7 + (xs.drop (i * 7)).length)).toArray := ⟨_, rfl⟩
  obtain ⟨W3, hW3⟩ : ∃ W3, W3 = W2.drew.setRow w.heap.size A2 := ⟨_, rfl⟩
  have hcpB : ∀ ty dc sc, (Builtin.copy_ #[53, 53] ty #[.slice (some ⟨w.heap.size, (i + 1) * 7, none⟩) (n - i) dc, .slice (some ⟨g, i * 7, none⟩) (n - i) sc]).run Try.prog W2.drew = .ok (goInt (Nat.min (n - i) (n - i))) W3 := fun ty dc sc => by
    rw [hW3, hA2]
    exact run_copy_x W2.drew 53 53 ty 56 7 w.heap.size ((i + 1) * 7) (n - i) dc ⟨some ⟨g, i * 7, none⟩, sc⟩ (n - i) A1 56 (xs.drop (i * 7)) Try.underlying53 (by rw [hi]; simp [hz1]) hg2
      (by rw [hd1, show Nat.min (n - i) (n - i) = n - i from by simp]) (by simp) (by rintro b o' ⟨⟩; exact hxc) (by rintro a ⟨⟩; rfl) (by rw [hd1]; omega) (fun u hu => h1x u (List.mem_of_mem_drop hu))
  have hg3 : W3.heap[w.heap.size]? = some (.cells A2 56 (0, 0)) := by rw [hW3]; exact setRow_heap W2.drew _ A1 A2 56 (0, 0) hg2
  have hwr : Wr w W3 (some g) := by
    rw [hW3, hW2, hW1]
    exact (((((Wr.refl w (some g)).drew).alloc ROW 56).trans (Wr.setRow _ A1) (fun i hi => .inr (by injection hi with hi; omega))).drew).trans (Wr.setRow _ A2) (fun i hi => .inr (by injection hi with hi; omega))
  have hfin : W3.ownsRow base 56 7 (.slice (some ⟨w.heap.size, 0, none⟩) (n + 1) G) (n + 1) (xs.take (i * 7) ++ ys ++ xs.drop (i * 7)) := by
    refine ⟨by simp [hxl, hy]; omega, .inr ⟨w.heap.size, G, A2, rfl, hbase, hg3, hGn, by unfold maxLen; omega, by rw [hA2]; simp; omega, ?_⟩⟩
    rw [hA2, hA1]
    exact grow_list ROW.toList xs ys (i * 7) (n * 7) 7 _ _ _ _ _ hRt hxl hy (by omega) (by rw [Array.length_toList]; omega) (by omega) rfl (by omega) (by omega) (by omega)
  have HF := Lib.hid hfin
  have HW := Lib.hid hwr
  clear hfin hwr hg3 hg2 hg1 hv1 hs1 hW3 hW2 hW1 hA2 hA1 hxc hd1 hg hv h1 h1x hxl htake hcs hb1o hb2o hRt hRs hROW hG hik
  have hGi : ¬ (G = i) := by omega
  have hGim : ¬ (G = i + 1) := by omega
  go_enter Try.func134, Try.ntmps134
  go_wp2_with (first
    | (at_builtin; refine wpList_append_run _ rfl _ _ 53 3 rfl _ _ rfl rfl (hrz _) ?_)
    | (at_builtin; refine wpList_copy_x _ rfl _ _ 53 53 rfl _ _ rfl rfl (hcpA _ _) ?_))
  go_region_law (refine step_copy_x _ rfl _ _ 53 53 rfl _ _ (by simp [Act.eval, Act.put]) (by simp [Act.eval, Act.put]) (hcpB _ _ _) ?_)
  go_wp2
  go_ret
  exact ⟨⟨some ⟨w.heap.size, 0, none⟩, G⟩, rfl, HF.out, HW.out, .inr ⟨_, rfl, Nat.le_refl _⟩⟩

theorem insE_any (hown : w.ownsRow base 56 7 (.slice s.a n s.c) n xs) (hbase : base ≤ w.heap.size) (hn : n ≤ 1000) (hin : i ≤ n) (hy : ys.length = 7) (hv : Blk w vb 56 ys.toArray) (hvb : s.row ≠ some vb) (h1 : ∀ u ∈ ys, u.oneCell' = true) (h1x : ∀ u ∈ xs, u.oneCell' = true) :
    Calls Try.prog 134 #[.slice s.a n s.c, .int .i64 i, .slice (some ⟨vb, 0, none⟩) 1 1] w (InsPostE base s n i xs ys w) := by
  by_cases he : i = n
  · subst he; exact insE_end hown hbase hn hy hv h1
  · rcases hown.2 with ⟨hs, h0⟩ | ⟨g, cap, cur, hs, hbg, hg, hnc, hcm, hcs, htake⟩
    · omega
    · simp only [Value.slice.injEq] at hs
      obtain ⟨ha, -, hc⟩ := hs
      have hne : vb ≠ g := fun e => hvb (by simp [Sl.row, ha, e])
      have hs' : s = ⟨some ⟨g, 0, none⟩, cap⟩ := by cases s; simp_all
      have hl := hown.1
      clear hown
      subst hs'
      by_cases hr : n + 1 ≤ cap
      · exact insE_shift hl hbg hg hr hcm hcs htake hn (by omega) hy hv hne h1 h1x
      · exact insE_grow hl hbase hg hnc (by omega) hcs htake hn (by omega) hy hv hne h1 h1x
end
end Go.Proofs.Ytpapoalgocmlaaa
