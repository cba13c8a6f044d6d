/- LogKeeps: the walk. -/
import Derived.Test.YtpapoalgocmlaaaLogP
import Derived.Test.YtpapoalgocmlaaaIs
namespace Go.Proofs.Ytpapoalgocmlaaa
open Go.RowKit
set_option linter.unusedVariables false
set_option linter.unusedSimpArgs false

/-- What is put: each one that pick picks. -/
def xsOf (row : List Value) (i : Nat) : List Value := (List.range i).map fun j => row.getD (j % 5) (.pointer none)
theorem xsOf_len (row : List Value) (i : Nat) : (xsOf row i).length = i := by simp [xsOf]
theorem xsOf_succ (row : List Value) (i : Nat) : xsOf row (i + 1) = xsOf row i ++ [row.getD (i % 5) (.pointer none)] := by simp [xsOf, List.range_succ]
theorem xsOf_at (row : List Value) {i j : Nat} (h : j < i) : (xsOf row i)[j]? = some (row.getD (j % 5) (.pointer none)) := by simp [xsOf, h]

theorem xsOf_put {row : List Value} {i : Nat} {q : Value} (h : row[i % 5]? = some q) : xsOf row i ++ [q] = xsOf row (i + 1) := by
  rw [xsOf_succ, List.getD_eq_getElem?_getD, h]; rfl
theorem put_keeps {w : World} {L R keep f i : Nat} {row : List Value} (h : LogAt w L R keep f (xsOf row i)) (hm : f + i ≤ 4611686018427387903) (q : Option Addr) :
    Calls Try.prog 29 #[logV L, .int .u64 ((f : Int) + (i : Int)), .agg #[.pointer q]] w (PutN L R keep f (xsOf row i) (.pointer q) w) := by
  have := put_log h (f + i) (by rw [xsOf_len]) hm q
  rwa [Int.natCast_add] at this

theorem at_keeps {w : World} {L R keep f i j : Nat} {row : List Value} (h : LogAt w L R keep f (xsOf row i)) (hj : j < i) (hm : f + i ≤ 4611686018427387903) (q : Option Addr) (hq : row[j % 5]? = some (.pointer q)) :
    Calls Try.prog 34 #[logV L, .int .u64 ((f : Int) + (j : Int))] w fun e w' => ((¬ i ≤ j + keep ∧ e = .returned (.tuple #[.agg #[.pointer none], .bool false])) ∨ (i ≤ j + keep ∧ e = .returned (.tuple #[.agg #[.pointer q], .bool true]))) ∧ Ext w w' := by
  have := at_log h (f + j) (by omega)
  rw [Int.natCast_add] at this
  refine this.mono ?_
  rintro e w' ⟨⟨hk, rfl⟩ | ⟨q', hk, rfl⟩, he⟩
  · refine ⟨.inl ⟨fun h' => hk ⟨by omega, ?_, ?_⟩, rfl⟩, he⟩
    · rw [xsOf_len]; omega
    · rw [xsOf_len]; omega
  · obtain ⟨-, k2, k3, k4⟩ := hk
    rw [xsOf_len] at k2 k3
    rw [show f + j - f = j from by omega, xsOf_at row hj, List.getD_eq_getElem?_getD, hq] at k4
    simp only [Option.getD_some, Option.some.injEq, Value.pointer.injEq] at k4
    subst k4
    exact ⟨.inr ⟨by omega, rfl⟩, he⟩
theorem above_keeps {w : World} {L R keep f i : Nat} {row : List Value} (h : LogAt w L R keep f (xsOf row i)) (hm : f + i ≤ 4611686018427387903) :
    Calls Try.prog 34 #[logV L, .int .u64 ((f : Int) + (i : Int))] w fun e w' => e = .returned (.tuple #[.agg #[.pointer none], .bool false]) ∧ Ext w w' := by
  have := at_log h (f + i) (by omega)
  rw [Int.natCast_add] at this
  refine this.mono ?_
  rintro e w' ⟨⟨hk, rfl⟩ | ⟨q', hk, rfl⟩, he⟩
  · exact ⟨rfl, he⟩
  · obtain ⟨-, k2, -, -⟩ := hk
    rw [xsOf_len] at k2; omega

set_option maxRecDepth 100000 in
set_option maxHeartbeats 2000000 in
theorem keeps_main (f keep n : Nat) (hf : f ≤ 4611686018427387603) (hk : 1 ≤ keep) (hk' : keep ≤ 100) (hn : n ≤ 200) (w : World) :
    Calls Try.prog 4 #[.int .u64 f, .int .i64 keep, .int .i64 n] w fun e w' => e = .returned (.bool true) ∧ Ext w w' := by
  have g1 : decide ((4611686018427387603 : Int) < (f : Int)) = false := decide_eq_false (by omega)
  have g2 : decide ((keep : Int) < 1) = false := decide_eq_false (by omega)
  have g3 : decide ((100 : Int) < (keep : Int)) = false := decide_eq_false (by omega)
  have g4 : decide ((n : Int) < 0) = false := decide_eq_false (by omega)
  have g5 : decide ((200 : Int) < (n : Int)) = false := decide_eq_false (by omega)
  go_enter Try.func4, Try.ntmps4
  go_wp2_with fail
  refine (new_any w keep).mono ?_
  rintro e w1 (⟨hn', -⟩ | ⟨-, L, R, ring, rfl, hl, hL, hR, hx1⟩)
  · exact absurd ⟨by omega, by omega⟩ hn'
  have HL1 := Lib.hid (show LogAt w1 L R keep f [] from LogAt.nil hl)
  have HX1 := Lib.hid hx1
  clear hl hx1
  go_wp2_with fail
  refine (trees_any w1).mono ?_
  rintro e w2 ⟨T, a, b, c, d, rfl, hT, -, -, -, hTg, hx2⟩
  have HT2 := Lib.hid (show Blk w2 T 30 (rowT a b c d).toArray from hT)
  have HL2 := Lib.hid (HL1.out.ext hx2)
  have HX2 := Lib.hid (HX1.out.trans hx2)
  have hL1 : L < w1.heap.size := HL1.out.lt.1
  have hR1 : R < w1.heap.size := HL1.out.lt.2
  have hTL : T ≠ L := by omega
  have hTR : T ≠ R := by omega
  clear hT hx2
  go_wp2_with fail
  go_loopw [10] (fun q wr => ∃ i : Nat, i ≤ n ∧ q = .int .i64 i ∧ LogAt wr L R keep f (xsOf (rowT a b c d) i) ∧ Blk wr T 30 (rowT a b c d).toArray ∧ Ext w wr) (fun q _ => n - (intOf q).toNat)
  case atStart => exact ⟨0, Nat.zero_le _, rfl, HL2.out, HT2.out, HX2.out⟩
  case round =>
    obtain ⟨i, hi, rfl, hl, hT, hx⟩ := hrel
    have HLr := Lib.hid hl
    have HTr := Lib.hid hT
    have HXr := Lib.hid hx
    clear hl hT hx
    by_cases hlt : i < n
    · have hlt' : (i : Int) < (n : Int) := by omega
      have hw1 : IntKind.u64.wrap (i : Int) = (i : Int) := by rw [IntKind.wrap_u64]; omega
      have hw2 : IntKind.u64.wrap ((f : Int) + (i : Int)) = (f : Int) + (i : Int) := by rw [IntKind.wrap_u64]; omega
      go_wp2_with fail
      refine (pick_any HTr.out i).mono ?_
      rintro e w3 ⟨q, hq, rfl, hx3⟩
      rw [pk_nat i (by omega)] at hq
      have HQ := Lib.hid hq
      have HL3 := Lib.hid (HLr.out.ext hx3)
      have HT3 := Lib.hid (HTr.out.ext hx3)
      have HX3 := Lib.hid (HXr.out.trans hx3)
      clear hx3 hq
      go_wp2_with fail
      have hx4 : Ext w3 (w3.alloc (.cells #[.pointer q] 30)) := (Ext.refl w3).alloc _ _
      have HL4 := Lib.hid (HL3.out.ext hx4)
      have HT4 := Lib.hid (HT3.out.ext hx4)
      have HX4 := Lib.hid (HX3.out.trans hx4)
      generalize w3.alloc (.cells #[.pointer q] 30) = w4 at *
      clear hx4
      refine (put_keeps HL4.out (by omega) q).mono ?_
      rintro e w5 ⟨rfl, hl5, ha5, hs5, he5⟩
      rw [xsOf_put HQ.out] at hl5
      have HL5 := Lib.hid hl5
      have HT5 := Lib.hid (HT4.out.agree ha5 ⟨HT4.out.lt, hTL, hTR⟩)
      have HX5 := Lib.hid (he5 w HX4.out hL hR)
      clear hl5 ha5 he5
      go_wp2_with fail
      go_roundw
      case rel => exact ⟨i + 1, hlt, by go_num, HL5.out, HT5.out, HX5.out⟩
      case measure => simp [intOf]; omega
    · have hlt' : ¬ (i : Int) < (n : Int) := by omega
      obtain rfl : i = n := by omega
      go_wp2_with fail
      go_loopw [13] (fun q wr => ∃ j : Nat, j ≤ i ∧ q = .int .i64 j ∧ LogAt wr L R keep f (xsOf (rowT a b c d) i) ∧ Blk wr T 30 (rowT a b c d).toArray ∧ Ext w wr) (fun q _ => i - (intOf q).toNat)
      case atStart => exact ⟨0, Nat.zero_le _, rfl, HLr.out, HTr.out, HXr.out⟩
      case round =>
        clear HLr HTr HXr
        obtain ⟨j, hj, rfl, hl, hT, hx⟩ := hrel
        have HLr := Lib.hid hl
        have HTr := Lib.hid hT
        have HXr := Lib.hid hx
        clear hl hT hx
        by_cases hjn : j < i
        · have hjn' : (j : Int) < (i : Int) := by omega
          have hw1 : IntKind.u64.wrap (j : Int) = (j : Int) := by rw [IntKind.wrap_u64]; omega
          have hw2 : IntKind.u64.wrap ((f : Int) + (j : Int)) = (f : Int) + (j : Int) := by rw [IntKind.wrap_u64]; omega
          have hw3 : IntKind.i64.wrap ((i : Int) - (keep : Int)) = (i : Int) - (keep : Int) := by rw [IntKind.wrap_i64]; omega
          obtain ⟨q, hq⟩ := rowT_ptr a b c d (j % 5) (Nat.mod_lt _ (by decide))
          have HQ := Lib.hid hq
          clear hq
          go_wp2_with fail
          refine (at_keeps HLr.out hjn (by omega) q HQ.out).mono ?_
          rintro e w3 ⟨⟨hk0, rfl⟩ | ⟨hk0, rfl⟩, hx3⟩
          · have hge : decide ((i : Int) - (keep : Int) ≤ (j : Int)) = false := decide_eq_false (by omega)
            have hge' : ¬ (i : Int) - (keep : Int) ≤ (j : Int) := by omega
            have HL3 := Lib.hid (HLr.out.ext hx3)
            have HT3 := Lib.hid (HTr.out.ext hx3)
            have HX3 := Lib.hid (HXr.out.trans hx3)
            clear hx3 hk0
            go_wp2_with fail
            have hx4 : Ext w3 (w3.alloc (.cells #[.pointer none] 30)) := (Ext.refl w3).alloc _ _
            have hb4 := Blk.new w3 30 #[.pointer none]
            have HL4 := Lib.hid (HL3.out.ext hx4)
            have HT4 := Lib.hid (HT3.out.ext hx4)
            have HX4 := Lib.hid (HX3.out.trans hx4)
            generalize w3.alloc (.cells #[.pointer none] 30) = w4 at *
            have r4 : w4.cell? ⟨w3.heap.size, 0, none⟩ = some (.pointer none) := hb4.cell 0
            have l4 := hb4.lt
            clear hx4 hb4
            refine (pick_any HT4.out j).mono ?_
            rintro e w5 ⟨q', hq', rfl, hx5⟩
            rw [pk_nat j (by omega), HQ.out] at hq'
            obtain rfl : q = q' := by simpa using hq'
            have HL5 := Lib.hid (HL4.out.ext hx5)
            have HT5 := Lib.hid (HT4.out.ext hx5)
            have HX5 := Lib.hid (HX4.out.trans hx5)
            have r5 := (hx5.cell (o := 0) l4).trans r4
            have l5 := Nat.lt_of_lt_of_le l4 hx5.size
            clear hx5 hq' r4 l4
            go_wp2_with fail
            have hx6 : Ext w5 (w5.alloc (.cells #[.pointer q] 30)) := (Ext.refl w5).alloc _ _
            go_roundw
            case rel => exact ⟨j + 1, hjn, by go_num, HL5.out.ext hx6, HT5.out.ext hx6, HX5.out.trans hx6⟩
            case measure => simp [intOf]; omega
          · have hge : decide ((i : Int) - (keep : Int) ≤ (j : Int)) = true := decide_eq_true (by omega)
            have hge' : (i : Int) - (keep : Int) ≤ (j : Int) := by omega
            have HL3 := Lib.hid (HLr.out.ext hx3)
            have HT3 := Lib.hid (HTr.out.ext hx3)
            have HX3 := Lib.hid (HXr.out.trans hx3)
            clear hx3 hk0
            go_wp2_with fail
            have hx4 : Ext w3 (w3.alloc (.cells #[.pointer q] 30)) := (Ext.refl w3).alloc _ _
            have hb4 := Blk.new w3 30 #[.pointer q]
            have HL4 := Lib.hid (HL3.out.ext hx4)
            have HT4 := Lib.hid (HT3.out.ext hx4)
            have HX4 := Lib.hid (HX3.out.trans hx4)
            generalize w3.alloc (.cells #[.pointer q] 30) = w4 at *
            have r4 : w4.cell? ⟨w3.heap.size, 0, none⟩ = some (.pointer q) := hb4.cell 0
            have l4 := hb4.lt
            clear hx4 hb4
            refine (pick_any HT4.out j).mono ?_
            rintro e w5 ⟨q', hq', rfl, hx5⟩
            rw [pk_nat j (by omega), HQ.out] at hq'
            obtain rfl : q = q' := by simpa using hq'
            have HL5 := Lib.hid (HL4.out.ext hx5)
            have HT5 := Lib.hid (HT4.out.ext hx5)
            have HX5 := Lib.hid (HX4.out.trans hx5)
            have r5 := (hx5.cell (o := 0) l4).trans r4
            have l5 := Nat.lt_of_lt_of_le l4 hx5.size
            clear hx5 hq' r4 l4
            go_wp2_with fail
            have hx6 : Ext w5 (w5.alloc (.cells #[.pointer q] 30)) := (Ext.refl w5).alloc _ _
            have HL6 := Lib.hid (HL5.out.ext hx6)
            have HT6 := Lib.hid (HT5.out.ext hx6)
            have HX6 := Lib.hid (HX5.out.trans hx6)
            generalize w5.alloc (.cells #[.pointer q] 30) = w6 at *
            clear hx6
            refine (is_same w6 q).mono ?_
            rintro e w7 ⟨rfl, hx7⟩
            have HL7 := Lib.hid (HL6.out.ext hx7)
            have HT7 := Lib.hid (HT6.out.ext hx7)
            have HX7 := Lib.hid (HX6.out.trans hx7)
            clear hx7
            go_wp2_with fail
            go_roundw
            case rel => exact ⟨j + 1, hjn, by go_num, HL7.out, HT7.out, HX7.out⟩
            case measure => simp [intOf]; omega
        · have hjn' : ¬ (j : Int) < (i : Int) := by omega
          obtain rfl : j = i := by omega
          have hw1 : IntKind.u64.wrap (j : Int) = (j : Int) := by rw [IntKind.wrap_u64]; omega
          have hw2 : IntKind.u64.wrap ((f : Int) + (j : Int)) = (f : Int) + (j : Int) := by rw [IntKind.wrap_u64]; omega
          go_wp2_with fail
          refine (above_keeps HLr.out (by omega)).mono ?_
          rintro e w3 ⟨rfl, hx3⟩
          have HX3 := Lib.hid (HXr.out.trans hx3)
          clear hx3
          go_wp2_with fail
          have hx4 : Ext w3 (w3.alloc (.cells #[.pointer none] 30)) := (Ext.refl w3).alloc _ _
          have HX4 := Lib.hid (HX3.out.trans hx4)
          generalize w3.alloc (.cells #[.pointer none] 30) = w4 at *
          clear hx4
          refine (known19 w4).mono ?_
          rintro e w5 ⟨rfl, hx5⟩
          have HX5 := Lib.hid (HX4.out.trans hx5)
          clear hx5
          go_wp2_with fail
          go_ret
          exact ⟨rfl, HX5.out⟩

set_option maxRecDepth 100000 in
set_option maxHeartbeats 1000000 in
theorem keeps_else (f keep n : Int) (h : ¬ (f ≤ 4611686018427387603 ∧ 1 ≤ keep ∧ keep ≤ 100 ∧ 0 ≤ n ∧ n ≤ 200)) (w : World) :
    Calls Try.prog 4 #[.int .u64 f, .int .i64 keep, .int .i64 n] w fun e w' => e = .returned (.bool true) ∧ Ext w w' := by
  by_cases h1 : 4611686018427387603 < f
  · have g1 : decide (4611686018427387603 < f) = true := decide_eq_true h1
    go_enter Try.func4, Try.ntmps4
    go_wp2_with fail
    refine (known19 w).mono ?_
    rintro e w' ⟨rfl, hx⟩
    go_wp2_with fail
    go_ret
    exact ⟨rfl, hx⟩
  have g1 : decide (4611686018427387603 < f) = false := decide_eq_false h1
  by_cases h2 : keep < 1
  · have g2 : decide (keep < 1) = true := decide_eq_true h2
    go_enter Try.func4, Try.ntmps4
    go_wp2_with fail
    refine (known19 w).mono ?_
    rintro e w' ⟨rfl, hx⟩
    go_wp2_with fail
    go_ret
    exact ⟨rfl, hx⟩
  have g2 : decide (keep < 1) = false := decide_eq_false h2
  by_cases h3 : 100 < keep
  · have g3 : decide (100 < keep) = true := decide_eq_true h3
    go_enter Try.func4, Try.ntmps4
    go_wp2_with fail
    refine (known19 w).mono ?_
    rintro e w' ⟨rfl, hx⟩
    go_wp2_with fail
    go_ret
    exact ⟨rfl, hx⟩
  have g3 : decide (100 < keep) = false := decide_eq_false h3
  by_cases h4 : n < 0
  · have g4 : decide (n < 0) = true := decide_eq_true h4
    go_enter Try.func4, Try.ntmps4
    go_wp2_with fail
    refine (known19 w).mono ?_
    rintro e w' ⟨rfl, hx⟩
    go_wp2_with fail
    go_ret
    exact ⟨rfl, hx⟩
  have g4 : decide (n < 0) = false := decide_eq_false h4
  have h5 : 200 < n := by
    by_cases h' : 200 < n
    · exact h'
    · exact absurd ⟨Int.not_lt.1 h1, Int.not_lt.1 h2, Int.not_lt.1 h3, Int.not_lt.1 h4, Int.not_lt.1 h'⟩ h
  have g5 : decide (200 < n) = true := decide_eq_true h5
  go_enter Try.func4, Try.ntmps4
  go_wp2_with fail
  refine (known19 w).mono ?_
  rintro e w' ⟨rfl, hx⟩
  go_wp2_with fail
  go_ret
  exact ⟨rfl, hx⟩

theorem keeps_walk (f keep n : Int) (hf : 0 ≤ f) (w : World) :
    Calls Try.prog 4 #[.int .u64 f, .int .i64 keep, .int .i64 n] w fun e w' => e = .returned (.bool true) ∧ Ext w w' := by
  by_cases h : f ≤ 4611686018427387603 ∧ 1 ≤ keep ∧ keep ≤ 100 ∧ 0 ≤ n ∧ n ≤ 200
  · obtain ⟨h1, h2, h3, h4, h5⟩ := h
    obtain ⟨f, rfl⟩ := Int.eq_ofNat_of_zero_le hf
    obtain ⟨keep, rfl⟩ := Int.eq_ofNat_of_zero_le (show 0 ≤ keep by omega)
    obtain ⟨n, rfl⟩ := Int.eq_ofNat_of_zero_le h4
    exact keeps_main f keep n (by omega) (by omega) (by omega) (by omega) w
  · exact keeps_else f keep n h w
theorem u64_nonneg {q : Int} (h : (Lit.int .u64 q).wf = true) : 0 ≤ q ∧ q < 18446744073709551616 := by
  have h1 : IntKind.u64.min = 0 := by decide
  have h2 : IntKind.u64.max = 18446744073709551615 := by decide
  simp [Lit.wf, h1, h2] at h; omega
theorem logkeeps_w (a0 a1 a2 : Int) (w0 : (Lit.int .u64 a0).wf = true) (w1 : (Lit.int .i64 a1).wf = true) (w2 : (Lit.int .i64 a2).wf = true) (w : World) :
    Calls Try.prog 4 #[.int .u64 a0, .int .i64 a1, .int .i64 a2] w fun e w' => e = .returned (.bool true) ∧ Ext w w' := keeps_walk a0 a1 a2 (u64_nonneg w0).1 w
end Go.Proofs.Ytpapoalgocmlaaa
