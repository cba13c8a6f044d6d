/- LogSince: the walk. -/
import Derived.Test.YtpapoalgocmlaaaAsks
namespace Go.Proofs.Ytpapoalgocmlaaa
open Go.RowKit
set_option linter.unusedVariables false
set_option linter.unusedSimpArgs false

/-- A slice of integers that came in. -/
def IsRow (k : IntKind) (w : World) (a : Option Addr) (len cap : Nat) (zs : List Int) : Prop :=
  (a = none ∧ len = 0 ∧ cap = 0 ∧ zs = []) ∨
  ∃ x, a = some x ∧ len ≤ cap ∧ cap ≤ maxLen ∧ zs.length = cap ∧ (∀ i, i < zs.length → w.cell? (x.add i) = some (.int k (zs.getD i 0))) ∧ ∀ n ∈ zs, (Lit.int k n).wf = true
def nsOf (zs : List Int) (i : Nat) : List Nat := (zs.take i).map pk
theorem nsOf_len {zs : List Int} {i : Nat} (h : i ≤ zs.length) : (nsOf zs i).length = i := by simp [nsOf]; omega
theorem nsOf_succ {zs : List Int} {i : Nat} (h : i < zs.length) : nsOf zs (i + 1) = nsOf zs i ++ [pk (zs.getD i 0)] := by
  unfold nsOf
  rw [List.take_add_one, List.map_append, List.getElem?_eq_getElem h]
  simp [h]
theorem nsOf_lt (zs : List Int) (i : Nat) : ∀ k ∈ nsOf zs i, k < 5 := by
  intro k hk
  simp only [nsOf, List.mem_map] at hk
  obtain ⟨z, -, rfl⟩ := hk
  exact pk_lt z
theorem psOf_snoc (a b c d : Nat) (ns : List Nat) (k : Nat) : (psOf a b c d (ns ++ [k])).map Value.pointer = (psOf a b c d ns).map Value.pointer ++ [.pointer (rootP a b c d k)] := by simp [psOf]
/-- The four roots lead to blocks. -/
def Four (w : World) (a b c d : Nat) : Prop := IsB w a ∧ IsB w b ∧ IsB w c ∧ IsB w d
theorem IsB.agree {w w' : World} {a : Nat} (h : IsB w a) {F : Nat → Prop} (ha : Agree F w w') (hF : F a) : IsB w' a := by
  obtain ⟨c, t, hc⟩ := h
  exact ⟨c, t, (ha a hF).trans hc⟩
theorem IsB.lt {w : World} {a : Nat} (h : IsB w a) : a < w.heap.size := by
  obtain ⟨c, t, hc⟩ := h
  exact (Array.getElem?_eq_some_iff.1 hc).1
theorem Four.agree {w w' : World} {a b c d : Nat} (h : Four w a b c d) {F : Nat → Prop} (ha : Agree F w w') (hF : ∀ x, x = a ∨ x = b ∨ x = c ∨ x = d → F x) : Four w' a b c d :=
  ⟨h.1.agree ha (hF _ (.inl rfl)), h.2.1.agree ha (hF _ (.inr (.inl rfl))), h.2.2.1.agree ha (hF _ (.inr (.inr (.inl rfl)))), h.2.2.2.agree ha (hF _ (.inr (.inr (.inr rfl))))⟩
theorem Four.ext {w w' : World} {a b c d : Nat} (h : Four w a b c d) (he : Ext w w') : Four w' a b c d := ⟨h.1.ext he, h.2.1.ext he, h.2.2.1.ext he, h.2.2.2.ext he⟩
theorem Four.leads {w : World} {a b c d : Nat} (h : Four w a b c d) (k : Nat) : Leads w (rootP a b c d k) := by
  intro x hx
  match k with
  | 0 => cases hx
  | 1 => cases hx; exact h.1
  | 2 => cases hx; exact h.2.1
  | 3 => cases hx; exact h.2.2.1
  | 4 => cases hx; exact h.2.2.2
  | _ + 5 => cases hx

set_option maxRecDepth 100000 in
set_option maxHeartbeats 4000000 in
theorem logsince_main (a0 : Option Addr) (len cap : Nat) (zs : List Int) (keep v : Nat) (hl : len ≤ 100) (hk : 1 ≤ keep) (hk' : keep ≤ 100) (hv : v < 18446744073709551616) (w : World) (w0 : IsRow .i64 w a0 len cap zs) :
    Calls Try.prog 7 #[.slice a0 len cap, .int .i64 keep, .int .u64 v] w fun e w' => e = .returned (.bool true) ∧ Below w.heap.size w w' := by
  have hzl : len ≤ zs.length := by
    rcases w0 with ⟨-, h, -, h'⟩ | ⟨x, -, h, -, h', -⟩ <;> omega
  have HROW := Lib.hid w0
  clear w0
  have g1 : decide ((100 : Int) < (len : Int)) = false := decide_eq_false (by omega)
  have g2 : decide ((keep : Int) < 1) = false := decide_eq_false (by omega)
  have g3 : decide ((100 : Int) < (keep : Int)) = false := decide_eq_false (by omega)
  go_enter Try.func7, Try.ntmps7
  go_wp2_with fail
  refine (new_any w keep).mono ?_
  rintro e w1 (⟨hn', -⟩ | ⟨-, L, R, ring, rfl, hl1, hL, hR, hx1⟩)
  · exact absurd ⟨by omega, by omega⟩ hn'
  have HL1 := Lib.hid (show LogAt w1 L R keep 1 [] from LogAt.nil hl1)
  have HX1 := Lib.hid hx1
  clear hl1 hx1
  go_wp2_with fail
  refine (trees_any2 w1).mono ?_
  rintro e w2 ⟨T, a, b, c, d, rfl, hT, hab, hbc, hcd, hTg, hx2, hla, hlb, hlc, hld, hga⟩
  have hTl := hT.lt
  have hLl : L < w1.heap.size := HL1.out.lt.1
  have hRl : R < w1.heap.size := HL1.out.lt.2
  have hal := hla.lt
  have hbl := hlb.lt
  have hcl := hlc.lt
  have hdl := hld.lt
  have HT2 := Lib.hid (show Blk w2 T 30 (rowT a b c d).toArray from hT)
  have HL2 := Lib.hid (HL1.out.ext hx2)
  have HX2 := Lib.hid (HX1.out.trans hx2)
  have HF2 := Lib.hid (show Four w2 a b c d from ⟨hla, hlb, hlc, hld⟩)
  have hs2 := hx2.size
  have hs1 := HX1.out.size
  clear hT hx2 hla hlb hlc hld
  go_wp2_with fail
  have hx3 : Ext w2 (w2.alloc (.cells #[.int .i64 keep, .slice none 0 0, .slice none 0 0] 66)) := (Ext.refl w2).alloc _ _
  have HR3 := Lib.hid (show RefL (w2.alloc (.cells #[.int .i64 keep, .slice none 0 0, .slice none 0 0] 66)) w2.heap.size keep 1 (nsOf zs 0) Sl.none Sl.none from
    ⟨Blk.new w2 66 #[.int .i64 keep, .slice none 0 0, .slice none 0 0], Rd.nil _ _ _, Rd.nil _ _ _, by simp [nsOf], by simp [nsOf], by omega, by omega⟩)
  have HT3 := Lib.hid (HT2.out.ext hx3)
  have HL3 := Lib.hid (HL2.out.ext hx3)
  have HX3 := Lib.hid (HX2.out.trans hx3)
  have HF3 := Lib.hid (HF2.out.ext hx3)
  generalize w2.alloc (.cells #[.int .i64 keep, .slice none 0 0, .slice none 0 0] 66) = w3 at *
  clear hx3 HT2 HL2 HX2 HF2 HL1 HX1
  go_loopw [11] (fun q wr => ∃ i : Nat, i ≤ len ∧ q = .int .i64 i ∧ LogAt wr L R keep 1 ((psOf a b c d (nsOf zs i)).map .pointer) ∧ (∃ sv sn, RefL wr w2.heap.size keep 1 (nsOf zs i) sv sn) ∧ Blk wr T 30 (rowT a b c d).toArray ∧ Four wr a b c d ∧ Ext w wr) (fun q _ => len - (intOf q).toNat)
  case atStart => exact ⟨0, Nat.zero_le _, rfl, HL3.out, ⟨_, _, HR3.out⟩, HT3.out, HF3.out, HX3.out⟩
  case round =>
    obtain ⟨i, hi, rfl, hlr, ⟨sv, sn, hrr⟩, hTr, hFr, hxr⟩ := hrel
    have HLr := Lib.hid hlr
    have HRr := Lib.hid hrr
    have HTr := Lib.hid hTr
    have HFr := Lib.hid hFr
    have HXr := Lib.hid hxr
    clear hlr hrr hTr hFr hxr
    by_cases hlt : i < len
    · have hlt' : (i : Int) < (len : Int) := by omega
      obtain ⟨x, rfl, hcz⟩ : ∃ x, a0 = some x ∧ wr.cell? (x.add i) = some (.int .i64 (zs.getD i 0)) := by
        rcases HROW.out with ⟨-, h, -, -⟩ | ⟨x, h1, h2, h3, h4, h5, -⟩
        · omega
        · refine ⟨x, h1, ?_⟩
          have hc := h5 i (by omega)
          have hbl : (x.add i).block < w.heap.size := by
            rcases Nat.lt_or_ge (x.add i).block w.heap.size with h | h
            · exact h
            · rw [World.cell?, Array.getElem?_eq_none h] at hc; cases hc
          exact (HXr.out.below.cell hbl).trans hc
      have hw1 : IntKind.u64.wrap (i : Int) = (i : Int) := by rw [IntKind.wrap_u64]; omega
      have hw2 : IntKind.u64.wrap ((i : Int) + 1) = (i : Int) + 1 := by rw [IntKind.wrap_u64]; omega
      obtain ⟨z, hz⟩ : ∃ z, zs.getD i 0 = z := ⟨_, rfl⟩
      rw [hz] at hcz
      have HZ := Lib.hid hz
      clear hz
      go_wp2_with fail
      refine (pick_any HTr.out z).mono ?_
      rintro e w4 ⟨q, hq, rfl, hx4⟩
      rw [rootP_row _ _ _ _ _ (pk_lt z)] at hq
      simp only [Option.some.injEq, Value.pointer.injEq] at hq
      have HQ := Lib.hid hq
      have hk5 := pk_lt z
      obtain ⟨k, hkz⟩ : ∃ k, pk z = k := ⟨_, rfl⟩
      rw [hkz] at hk5 ⊢
      have HKZ := Lib.hid hkz
      have HL4 := Lib.hid (HLr.out.ext hx4)
      have HR4 := Lib.hid (HRr.out.ext hx4)
      have HT4 := Lib.hid (HTr.out.ext hx4)
      have HF4 := Lib.hid (HFr.out.ext hx4)
      have HX4 := Lib.hid (HXr.out.trans hx4)
      clear hx4 hq hkz
      go_wp2_with fail
      have hx5 : Ext w4 (w4.alloc (.cells #[.pointer q] 30)) := (Ext.refl w4).alloc _ _
      have HL5 := Lib.hid (HL4.out.ext hx5)
      have HR5 := Lib.hid (HR4.out.ext hx5)
      have HT5 := Lib.hid (HT4.out.ext hx5)
      have HF5 := Lib.hid (HF4.out.ext hx5)
      have HX5 := Lib.hid (HX4.out.trans hx5)
      generalize w4.alloc (.cells #[.pointer q] 30) = w5 at *
      clear hx5
      have hnl := nsOf_len (zs := zs) (i := i) (by omega)
      have c5 : Calls Try.prog 29 #[logV L, .int .u64 ((i : Int) + 1), .agg #[.pointer q]] w5 (PutN L R keep 1 ((psOf a b c d (nsOf zs i)).map .pointer) (.pointer q) w5) := by
        have := put_log HL5.out (i + 1) (by simp [psOf, hnl]; omega) (by omega) q
        rwa [show ((i + 1 : Nat) : Int) = (i : Int) + 1 from by omega] at this
      refine c5.mono ?_
      rintro e w6 ⟨rfl, hl6, ha6, hs6, he6⟩
      rw [← HQ.out, ← psOf_snoc] at hl6
      have hr6 := HR5.out.agree ha6 (fun b hb hP => ⟨hb, by omega, by omega⟩) hs6
      have hT6 : Blk w6 T 30 (rowT a b c d).toArray := HT5.out.agree ha6 ⟨HT5.out.lt, by omega, by omega⟩
      have hF6 := HF5.out.agree ha6 (fun y hy => by
        have f1 := HF5.out.1.lt
        have f2 := HF5.out.2.1.lt
        have f3 := HF5.out.2.2.1.lt
        have f4 := HF5.out.2.2.2.lt
        rcases hy with rfl | rfl | rfl | rfl <;> exact ⟨by omega, by omega, by omega⟩)
      have HL6 := Lib.hid hl6
      have HR6 := Lib.hid hr6
      have HT6 := Lib.hid hT6
      have HF6 := Lib.hid hF6
      have HX6 := Lib.hid (he6 w HX5.out (by omega) (by omega))
      clear hl6 ha6 hr6 hT6 hF6 he6 c5
      go_wp2_with fail
      have c6 : Calls Try.prog 41 #[.pointer (some ⟨w2.heap.size, 0, none⟩), .int .u64 ((i : Int) + 1), .int .i64 (k : Int)] w6 (Put19Post w2.heap.size keep 1 (nsOf zs i) k w6) := by
        have := put19 HR6.out (by omega) (i + 1) k (by omega) (by omega)
        rwa [show ((i + 1 : Nat) : Int) = (i : Int) + 1 from by omega] at this
      refine c6.mono ?_
      rintro e w7 ⟨rfl, ⟨sv', sn', hr7⟩, ha7, hs7, he7⟩
      have hwl := HX6.out.size
      have hns : nsOf zs (i + 1) = nsOf zs i ++ [k] := by rw [nsOf_succ (by omega), HZ.out, HKZ.out]
      have HR7 := Lib.hid hr7
      have HT7 := Lib.hid (show Blk w7 T 30 (rowT a b c d).toArray from HT6.out.agree ha7 ⟨HT6.out.lt, by omega⟩)
      have HF7 := Lib.hid (HF6.out.agree ha7 (fun y hy => by
        have f1 := HF6.out.1.lt
        have f2 := HF6.out.2.1.lt
        have f3 := HF6.out.2.2.1.lt
        have f4 := HF6.out.2.2.2.lt
        rcases hy with rfl | rfl | rfl | rfl <;> exact ⟨by omega, by omega⟩))
      have hll := HL6.out.lt
      have HL7 := Lib.hid (show LogAt w7 L R keep 1 _ from HL6.out.agree ha7 ⟨hll.1, by omega⟩ ⟨hll.2, by omega⟩)
      have HX7 := Lib.hid (he7 w HX6.out (by omega))
      have HKK := Lib.hid HKZ.out
      have HNS := Lib.hid hns
      clear hr7 ha7 he7 c6 hns
      go_wp2_with fail
      go_roundw
      case rel =>
        refine ⟨i + 1, hlt, by go_num, ?_, ?_, HT7.out, HF7.out, HX7.out⟩
        · rw [HNS.out, ← HKZ.out]; exact HL7.out
        · rw [HNS.out]; exact ⟨_, _, HR7.out⟩
      case measure => simp [intOf]; omega
    · have hlt' : ¬ (i : Int) < (len : Int) := by omega
      obtain rfl : i = len := by omega
      have hle : ∀ q ∈ psOf a b c d (nsOf zs i), Leads wr q := fun q hq => by
        simp only [psOf, List.mem_map] at hq
        obtain ⟨k, -, rfl⟩ := hq
        exact HFr.out.leads k
      have ca := asks_any HLr.out HRr.out HTr.out (nsOf_lt zs i) hle hab hbc hcd v hv
      have HCA := Lib.hid ca
      clear ca hle
      go_wp2_with fail
      refine HCA.out.mono ?_
      rintro e w4 ⟨rfl, hb4⟩
      have HB4 := Lib.hid hb4
      clear hb4
      go_wp2_with fail
      refine (known19 w4).mono ?_
      rintro e w5 ⟨rfl, hx5⟩
      have HX5 := Lib.hid hx5
      clear hx5
      go_wp2_with fail
      go_ret
      exact ⟨rfl, (HXr.out.below.trans (HB4.out.mono HXr.out.size)).trans (HX5.out.below.mono (Nat.le_trans HXr.out.size HB4.out.size))⟩

set_option maxRecDepth 100000 in
set_option maxHeartbeats 1000000 in
theorem logsince_else (a0 : Option Addr) (len cap : Nat) (keep v : Int) (h : ¬ (len ≤ 100 ∧ 1 ≤ keep ∧ keep ≤ 100)) (w : World) :
    Calls Try.prog 7 #[.slice a0 len cap, .int .i64 keep, .int .u64 v] w fun e w' => e = .returned (.bool true) ∧ Below w.heap.size w w' := by
  by_cases h1 : 100 < len
  · have g1 : decide ((100 : Int) < (len : Int)) = true := decide_eq_true (by omega)
    go_enter Try.func7, Try.ntmps7
    go_wp2_with fail
    refine (known19 w).mono ?_
    rintro e w' ⟨rfl, hx⟩
    go_wp2_with fail
    go_ret
    exact ⟨rfl, hx.below⟩
  have g1 : decide ((100 : Int) < (len : Int)) = false := decide_eq_false (by omega)
  by_cases h2 : keep < 1
  · have g2 : decide (keep < 1) = true := decide_eq_true h2
    go_enter Try.func7, Try.ntmps7
    go_wp2_with fail
    refine (known19 w).mono ?_
    rintro e w' ⟨rfl, hx⟩
    go_wp2_with fail
    go_ret
    exact ⟨rfl, hx.below⟩
  have g2 : decide (keep < 1) = false := decide_eq_false h2
  have h3 : 100 < keep := by
    by_cases h' : 100 < keep
    · exact h'
    · exact absurd ⟨Nat.not_lt.1 h1, Int.not_lt.1 h2, Int.not_lt.1 h'⟩ h
  have g3 : decide (100 < keep) = true := decide_eq_true h3
  go_enter Try.func7, Try.ntmps7
  go_wp2_with fail
  refine (known19 w).mono ?_
  rintro e w' ⟨rfl, hx⟩
  go_wp2_with fail
  go_ret
  exact ⟨rfl, hx.below⟩

theorem logsince_w (a0 : Option Addr) (len0 cap0 : Nat) (z0 : List Int) (a1 : Int) (a2 : Int) (w : World) (w0 : IsRow .i64 w a0 len0 cap0 z0) (w1 : (Lit.int .i64 a1).wf = true) (w2 : (Lit.int .u64 a2).wf = true) :
    Calls Try.prog 7 #[.slice a0 len0 cap0, .int .i64 a1, .int .u64 a2] w fun e w' => e = .returned (.bool true) ∧ Below w.heap.size w w' := by
  by_cases h : len0 ≤ 100 ∧ 1 ≤ a1 ∧ a1 ≤ 100
  · have h2 := u64_nonneg w2
    obtain ⟨v, rfl⟩ := Int.eq_ofNat_of_zero_le h2.1
    obtain ⟨keep, rfl⟩ := Int.eq_ofNat_of_zero_le (show 0 ≤ a1 by omega)
    exact logsince_main a0 len0 cap0 z0 keep v h.1 (by omega) (by omega) (by omega) w w0
  · exact logsince_else a0 len0 cap0 a1 a2 h w
end Go.Proofs.Ytpapoalgocmlaaa
