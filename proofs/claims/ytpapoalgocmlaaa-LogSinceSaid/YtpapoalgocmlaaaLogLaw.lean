/- law19.known: the chapter's row. -/
import Derived.Test.YtpapoalgocmlaaaTrees
namespace Go.Proofs.Ytpapoalgocmlaaa
open Go.RowKit
set_option linter.unusedVariables false
set_option linter.unusedSimpArgs false

/-- Put of a version that is taken, for a walk. -/
def PutL2 (L R n newest count : Nat) (v : Nat) (w : World) (e : Ending) (w' : World) : Prop :=
  e = .returned (.int .i64 0) ∧ (∃ ring', IsL w' L R n v (min (count + 1) n) ring') ∧ Agree (fun b => b < w.heap.size ∧ b ≠ L ∧ b ≠ R) w w' ∧ w.heap.size ≤ w'.heap.size ∧ ∀ a : World, Ext a w → a.heap.size ≤ L → a.heap.size ≤ R → Ext a w'
theorem put_ok2 {w : World} {L R n newest count : Nat} {ring : List Value} (h : IsL w L R n newest count ring) (v : Nat) (hv : v < 18446744073709551616) (q : Option Addr) (hc : putCode newest count v = 0) :
    Calls Try.prog 29 #[logV L, .int .u64 v, .agg #[.pointer q]] w (PutL2 L R n newest count v w) :=
  (put_ok h v hv q hc).mono fun e w' ⟨h1, h2, h3, h4, h5⟩ => ⟨h1, ⟨_, h2⟩, h3, h4, h5⟩

set_option maxRecDepth 100000 in
set_option maxHeartbeats 1000000 in
theorem known19 (w : World) : Calls Try.prog 31 #[] w fun e w' => e = .returned (.bool true) ∧ Ext w w' := by
  go_enter Try.func31, Try.ntmps31
  go_wp2_with fail
  refine (new_any w 2).mono ?_
  rintro e w1 (⟨hn, -⟩ | ⟨-, L, R, ring, rfl, hl, hL, hR, hx1⟩)
  · exact absurd ⟨by decide, by decide⟩ hn
  have hl : IsL w1 L R 2 0 0 ring := hl
  go_wp2_with fail
  refine (trees_any w1).mono ?_
  rintro e w2 ⟨T, a, b, c, d, rfl, hT, -, -, -, -, hx2⟩
  have hT1 : w2.cell? ⟨T, 1, none⟩ = some (.pointer (some ⟨a, 0, none⟩)) := hT.cell 1
  have hTl := hT.lt
  have hX2 := hx1.trans hx2
  have hl2 := hl.ext hx2
  have HL2 := Lib.hid hl2
  have HX2 := Lib.hid hX2
  have hLl := hl2.blk.lt
  have hRl := hl2.row.lt
  clear hT hx1 hx2 hl hl2 hX2
  go_wp2_with fail
  have hx3 : Ext w2 (w2.alloc (.cells #[.pointer (some ⟨a, 0, none⟩)] 30)) := (Ext.refl w2).alloc _ _
  have hb3 := Blk.new w2 30 #[.pointer (some ⟨a, 0, none⟩)]
  generalize w2.alloc (.cells #[.pointer (some ⟨a, 0, none⟩)] 30) = w3 at *
  have z3 : w3.cell? ⟨w2.heap.size, 0, none⟩ = some (.pointer (some ⟨a, 0, none⟩)) := hb3.cell 0
  have zl3 := hb3.lt
  have hz1 : w2.heap.size ≠ L := by omega
  have hz2 : w2.heap.size ≠ R := by omega
  have HL3 := Lib.hid (HL2.out.ext hx3)
  have HX3 := Lib.hid (HX2.out.trans hx3)
  clear hx3 hb3
  have c3 : Calls Try.prog 29 #[logV L, .int .u64 5, .agg #[.pointer (some ⟨a, 0, none⟩)]] w3 (PutL2 L R 2 0 0 5 w3) := put_ok2 HL3.out 5 (by decide) _ (by decide)
  refine c3.mono ?_
  rintro e w4 ⟨rfl, ⟨ring3, hl⟩, hag, hsz, hext⟩
  have HL4 := Lib.hid (show IsL w4 L R 2 5 1 ring3 from hl)
  have HX4 := Lib.hid (hext w HX3.out hL hR)
  have z4 : w4.cell? ⟨w2.heap.size, 0, none⟩ = some (.pointer (some ⟨a, 0, none⟩)) := (hag.cell (o := 0) ⟨zl3, hz1, hz2⟩).trans z3
  have zl4 := Nat.lt_of_lt_of_le zl3 hsz
  clear c3 hl hag hsz hext z3
  go_wp2_with fail
  have c4 : Calls Try.prog 29 #[logV L, .int .u64 6, .agg #[.pointer (some ⟨a, 0, none⟩)]] w4 (PutL2 L R 2 5 1 6 w4) := put_ok2 HL4.out 6 (by decide) _ (by decide)
  refine c4.mono ?_
  rintro e w5 ⟨rfl, ⟨ring4, hl⟩, hag, hsz, hext⟩
  have HL5 := Lib.hid (show IsL w5 L R 2 6 2 ring4 from hl)
  have HX5 := Lib.hid (hext w HX4.out hL hR)
  have z5 : w5.cell? ⟨w2.heap.size, 0, none⟩ = some (.pointer (some ⟨a, 0, none⟩)) := (hag.cell (o := 0) ⟨zl4, hz1, hz2⟩).trans z4
  have zl5 := Nat.lt_of_lt_of_le zl4 hsz
  clear c4 hl hag hsz hext z4
  go_wp2_with fail
  have c5 : Calls Try.prog 29 #[logV L, .int .u64 7, .agg #[.pointer (some ⟨a, 0, none⟩)]] w5 (PutL2 L R 2 6 2 7 w5) := put_ok2 HL5.out 7 (by decide) _ (by decide)
  refine c5.mono ?_
  rintro e w6 ⟨rfl, ⟨ring5, hl⟩, hag, hsz, hext⟩
  have HL6 := Lib.hid (show IsL w6 L R 2 7 2 ring5 from hl)
  have HX6 := Lib.hid (hext w HX5.out hL hR)
  have z6 : w6.cell? ⟨w2.heap.size, 0, none⟩ = some (.pointer (some ⟨a, 0, none⟩)) := (hag.cell (o := 0) ⟨zl5, hz1, hz2⟩).trans z5
  have zl6 := Nat.lt_of_lt_of_le zl5 hsz
  clear c5 hl hag hsz hext z5
  go_wp2_with fail
  have co : Calls Try.prog 43 #[logV L] w6 fun e w' => e = .returned (.tuple #[.int .u64 6, .bool true]) ∧ ∃ q, w' = w6.drewN q := oldest_any HL6.out
  refine co.mono ?_
  rintro e w7 ⟨rfl, q, rfl⟩
  have HL7 := Lib.hid (show IsL (w6.drewN q) L R 2 7 2 ring5 from HL6.out.ext ((Ext.refl w6).drewN q))
  have HX7 := Lib.hid (HX6.out.drewN q)
  have z7 : (w6.drewN q).cell? ⟨w2.heap.size, 0, none⟩ = some (.pointer (some ⟨a, 0, none⟩)) := z6
  have zl7 : w2.heap.size < (w6.drewN q).heap.size := zl6
  generalize w6.drewN q = w7 at *
  clear co z6
  go_wp2_with fail
  have cn : Calls Try.prog 32 #[logV L] w7 fun e w' => e = .returned (.tuple #[.int .u64 7, .bool true]) ∧ w7 = w' := newest_any HL7.out
  refine cn.mono ?_
  rintro e w8 ⟨rfl, rfl⟩
  clear cn
  go_wp2_with fail
  have ca : Calls Try.prog 34 #[logV L, .int .u64 5] w7 (AtPost 2 7 2 ring5 5 w7) := at_any HL7.out 5 (by decide)
  refine ca.mono ?_
  rintro e w8 ⟨⟨-, rfl⟩ | ⟨hk, -⟩, hx8⟩
  rotate_left
  · exact absurd hk.2.1 (by decide)
  have z8 : w8.cell? ⟨w2.heap.size, 0, none⟩ = some (.pointer (some ⟨a, 0, none⟩)) := (hx8.cell zl7).trans z7
  have zl8 := Nat.lt_of_lt_of_le zl7 hx8.size
  have HX8 := Lib.hid (HX7.out.trans hx8)
  have HL8 := Lib.hid (HL7.out.ext hx8)
  clear ca hx8 z7
  go_wp2_with fail
  have hx9 : Ext w8 (w8.alloc (.cells #[.pointer none] 30)) := (Ext.refl w8).alloc _ _
  generalize w8.alloc (.cells #[.pointer none] 30) = w9 at *
  have z9 := (hx9.cell (o := 0) zl8).trans z8
  have zl9 := Nat.lt_of_lt_of_le zl8 hx9.size
  have HX9 := Lib.hid (HX8.out.trans hx9)
  have HL9 := Lib.hid (HL8.out.ext hx9)
  have cp : Calls Try.prog 29 #[logV L, .int .u64 7, .agg #[.pointer (some ⟨a, 0, none⟩)]] w9 fun e w' => e = .returned (.int .i64 15) ∧ Ext w9 w' := put_bad HL9.out 7 (by decide) _ (by decide)
  refine cp.mono ?_
  rintro e w10 ⟨rfl, hx10⟩
  have z10 := (hx10.cell (o := 0) zl9).trans z9
  have zl10 := Nat.lt_of_lt_of_le zl9 hx10.size
  have HX10 := Lib.hid (HX9.out.trans hx10)
  have HL10 := Lib.hid (HL9.out.ext hx10)
  clear cp hx9 hx10 z8 z9
  go_wp2_with fail
  have cp : Calls Try.prog 29 #[logV L, .int .u64 9, .agg #[.pointer (some ⟨a, 0, none⟩)]] w10 fun e w' => e = .returned (.int .i64 14) ∧ Ext w10 w' := put_bad HL10.out 9 (by decide) _ (by decide)
  refine cp.mono ?_
  rintro e w11 ⟨rfl, hx11⟩
  have HX11 := Lib.hid (HX10.out.trans hx11)
  clear cp hx11
  go_wp2_with fail
  go_ret
  exact ⟨rfl, HX11.out⟩
end Go.Proofs.Ytpapoalgocmlaaa
