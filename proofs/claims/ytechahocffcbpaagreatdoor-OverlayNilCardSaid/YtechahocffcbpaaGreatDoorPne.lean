/- What the theorem needs of the texts FitI, KeysMay, Same12, Known12: no condition of its own. -/
import Derived.WalkArith
import Derived.Deep.RegionLaw
import Derived.Lib.SliceRun
import Derived.Laws.IdiomStrings
import Derived.WideKeyArgs
import Derived.ChangeOld
import Derived.Handed
import Derived.ProofKit
import Derived.OpenShut
import Derived.WalkKit
import Derived.OrdersIn
import Derived.Test.YtechahocffcbpaaGreatDoorPna
import Derived.Test.YtechahocffcbpaaGreatDoorPnb
import Derived.Test.YtechahocffcbpaaGreatDoorPnc
import Derived.Test.YtechahocffcbpaaGreatDoorPnd
set_option maxRecDepth 100000
set_option maxHeartbeats 4000000
namespace Go.Proofs.YtechahocffcbpaaGreatDoor
open Go.RowKit Go.Maps Go.Shelf
set_option linter.unusedVariables false
set_option linter.unusedSimpArgs false
abbrev numV (n : Int) : Val := .mk 3 false n ByteArray.empty [] [] []
abbrev numA (n : Int) : Value := .agg #[.int .i64 3, .bool false, .int .i64 n, .string ByteArray.empty, .slice none 0 0, .slice none 0 0]
theorem odd_int (w : World) (n : Int) : Calls Tryz.prog 137 #[numA n] w fun e w' => e = .returned (.bool false) ∧ Ext w w' := by
  go_enter Tryz.func137, Tryz.ntmps137
  go_wp2_with fail
  all_goals
    go_ret
    exact ⟨rfl, (Ext.refl w).alloc _ _⟩
theorem may_int (w : World) (n : Int) {j : Nat} (hj : j ≤ 64) : Calls Tryz.prog 93 #[numA n, .int .i64 (j : Int)] w fun e w' => e = .returned (.int .i64 0) ∧ Ext w w' := by
  have ho := fun W => odd_int W n
  have g0 : decide ((64 : Int) < (j : Int)) = false := decide_eq_false (by omega)
  have HO := Lib.hid ho
  clear ho
  go_enter Tryz.func93, Tryz.ntmps93
  go_wp2_with fail
  have hx0 := (Ext.refl w).alloc #[.int .i64 3, .bool false, .int .i64 n, .string ByteArray.empty, .slice none 0 0, .slice none 0 0] 34
  have hb0 := Blk.new w 34 #[.int .i64 3, .bool false, .int .i64 n, .string ByteArray.empty, .slice none 0 0, .slice none 0 0]
  refine (HO.out _).mono ?_
  rintro e w1 ⟨rfl, hx1⟩
  obtain ⟨q0, q1, q2, q3, q4, q5⟩ := (hb0.ext hx1).c6
  have HX := Lib.hid (hx0.trans hx1)
  clear hx0 hx1 hb0
  go_wp2_with fail
  go_ret
  exact ⟨rfl, HX.out⟩
theorem mayV_int (w : World) (n : Int) : Calls Tryz.prog 59 #[numA n] w fun e w' => e = .returned (.int .i64 0) ∧ Ext w w' := by
  have ho := fun W => may_int W n (j := 1) (by omega)
  have HO := Lib.hid ho
  clear ho
  go_enter Tryz.func59, Tryz.ntmps59
  go_wp2_with fail
  have hx0 := (Ext.refl w).alloc #[.int .i64 3, .bool false, .int .i64 n, .string ByteArray.empty, .slice none 0 0, .slice none 0 0] 34
  refine (HO.out _).mono ?_
  rintro e w1 ⟨rfl, hx1⟩
  have HX := Lib.hid (hx0.trans hx1)
  clear hx0 hx1
  go_wp2_with fail
  go_ret
  exact ⟨rfl, HX.out⟩
theorem deep_int (w : World) (n : Int) : Calls Tryz.prog 60 #[numA n] w fun e w' => e = .returned (.int .i64 1) ∧ Ext w w' := by
  go_enter Tryz.func60, Tryz.ntmps60
  go_wp2_with fail
  go_ret
  exact ⟨rfl, (Ext.refl w).alloc _ _⟩
def sumS (ks : List ByteArray) : Nat := (ks.map ByteArray.size).sum
theorem sumS_take {ks : List ByteArray} {j : Nat} {k : ByteArray} (h : ks[j]? = some k) : sumS (ks.take (j + 1)) = sumS (ks.take j) + k.size := by
  obtain ⟨hj, rfl⟩ := List.getElem?_eq_some_iff.1 h
  unfold sumS
  rw [List.take_succ_eq_append_getElem hj, List.map_append, List.sum_append]; simp
theorem sumS_le (ks : List ByteArray) (j : Nat) : sumS (ks.take j) ≤ sumS ks := by
  have : sumS ks = sumS (ks.take j) + sumS (ks.drop j) := by unfold sumS; rw [← List.sum_append, ← List.map_append, List.take_append_drop]
  omega
abbrev wrC (a b : Value) (n : Nat) : Array Value := #[.bool false, a, b, .int .i64 (n : Int)]
theorem join_any {w : World} {B : Nat} {a b : Value} {n : Nat} {F : Nat → Prop} {s : Sl} {ks : List ByteArray} (hB : Blk w B 144 (wrC a b n)) (hr : Rd w F 1 s ks.length (ks.map .string)) (hF : ∀ i, F i → i < w.heap.size ∧ i ≠ B) (hn : n + sumS ks ≤ 100000000) (hkl : ks.length ≤ 1000000) :
    Calls Tryz.prog 139 #[.pointer (some ⟨B, 0, none⟩), .slice s.a ks.length s.c] w fun e w' => (∃ r, e = .returned r) ∧ Blk w' B 144 (wrC a b (n + sumS ks)) ∧ St (fun c => c = B) w w' := by
  obtain ⟨g, o, h1, -, h3⟩ := hr
  have H1 := Lib.hid h1
  have H3 := Lib.hid h3
  have HF := Lib.hid hF
  have HB := Lib.hid hB
  clear h1 h3 hF hB
  go_enter Tryz.func139, Tryz.ntmps139
  go_wp2_with fail
  go_loopw [8] (fun q wr => ∃ j : Nat, q = .int .i64 (j : Int) ∧ j ≤ ks.length ∧ Blk wr B 144 (wrC a b (n + sumS (ks.take j))) ∧ St (fun c => c = B) w wr) (fun q _ => ks.length - (intOf q).toNat)
  case atStart => exact ⟨0, rfl, Nat.zero_le _, by simpa [sumS] using HB.out, St.refl _ _⟩
  case round =>
    obtain ⟨j, rfl, hjl, hb, hst⟩ := hrel
    by_cases hlt : j < ks.length
    · have g1 : decide ((j : Int) < (ks.length : Int)) = true := decide_eq_true (by omega)
      have g1' : (j : Int) < (ks.length : Int) := by omega
      obtain ⟨k, hk⟩ : ∃ k, ks[j]? = some k := ⟨_, List.getElem?_eq_getElem hlt⟩
      obtain ⟨e1, hc, hcm⟩ := H1.out.eq (by omega)
      have lg := HF.out g (H1.out.fits (by omega))
      obtain ⟨sa, sc⟩ := s
      dsimp only at e1 hc hcm
      subst e1
      have c0 : wr.cell? ⟨g, o + j, none⟩ = some (.string k) := (hst.cell lg.1 lg.2).trans (H3.out j _ (by rw [List.getElem?_map, hk]; rfl))
      have c3 : wr.cell? ⟨B, 3, none⟩ = some (.int .i64 ((n + sumS (ks.take j) : Nat) : Int)) := hb.cell 3
      have ck : wr.cell? ⟨B, 0, none⟩ = some (.bool false) := hb.cell 0
      have f3 := hb.frozen 3
      have lB := hb.lt
      have hsum := sumS_take hk
      have hle := sumS_le ks (j + 1)
      obtain ⟨m, hm⟩ : ∃ m, n + sumS (ks.take j) = m := ⟨_, rfl⟩
      have hm2 : n + sumS (ks.take (j + 1)) = m + k.size := by omega
      rw [hm] at c3 hb
      have g2 : IntKind.i64.wrap ((m : Int) + (k.size : Int)) = (m : Int) + (k.size : Int) := by rw [IntKind.wrap_i64]; omega
      have HBL := Lib.hid hb
      have HST := Lib.hid hst
      have HM2 := Lib.hid hm2
      clear hb hst hk hsum hle hm hm2
      go_wp2_with fail
      have hset : St (fun c => c = B) wr (wr.setCell ⟨B, 3, none⟩ (.int .i64 ((m : Int) + (k.size : Int)))) := (St.refl (fun c => c = B) wr).set (p := ⟨B, 3, none⟩) (.inr rfl) _
      have hbs := HBL.out.set_ 3 (.int .i64 ((m : Int) + (k.size : Int)))
      exact ⟨⟨j + 1, rfl, hlt, by rw [HM2.out]; exact hbs, HST.out.trans hset⟩, by show ks.length - ((j : Int) + 1).toNat < ks.length - (j : Int).toNat; omega⟩
    · obtain rfl : j = ks.length := by omega
      have g1 : decide ((ks.length : Int) < (ks.length : Int)) = false := decide_eq_false (by omega)
      rw [List.take_length] at hb
      go_wp2_with fail
      go_end0
      exact ⟨⟨_, rfl⟩, hb, hst⟩
def FmtOK (n : Int) (W : World) : Prop := Calls Tryz.prog 142 #[.int .i64 n, .int .i64 10] W fun e w' => ∃ s : ByteArray, e = .returned (.string s) ∧ s.size ≤ 21 ∧ Nw W w'
theorem own2_int {w : World} {V B : Nat} {a b : Value} {n : Int} {m : Nat} (hV : Blk w V 34 #[.int .i64 3, .bool false, .int .i64 n, .string ByteArray.empty, .slice none 0 0, .slice none 0 0]) (hB : Blk w B 144 (wrC a b m)) (hVB : V ≠ B) (hm : m ≤ 10000000) (hf : ∀ W, Nw w W → FmtOK n W) :
    Calls Tryz.prog 141 #[.pointer (some ⟨B, 0, none⟩), .pointer (some ⟨V, 0, none⟩)] w fun e w' => (∃ r, e = .returned r) ∧ (∃ k, k ≤ 21 ∧ Blk w' B 144 (wrC a b (m + k))) ∧ Sb (fun c => c = B) w w' := by
  have c2 : w.cell? ⟨V, 2, none⟩ = some (.int .i64 n) := hV.cell 2
  have HF := Lib.hid hf
  have HB := Lib.hid hB
  clear hV hB hf
  go_enter Tryz.func141, Tryz.ntmps141
  go_wp2_with fail
  refine (HF.out _ (Sb.refl _ w)).mono ?_
  rintro e w1 ⟨s, rfl, hs, hn1⟩
  have hx2 : Ext w1 (w1.alloc (.cells #[.string s] 9)) := (Ext.refl w1).alloc _ _
  have hb2 := (hn1.blk HB.out).ext hx2
  have hl1 := (hn1.blk HB.out).lt
  have hj := join_any (s := ⟨some ⟨w1.heap.size, 0, none⟩, 1⟩) (ks := [s]) hb2 (Rd.block (Blk.new w1 9 #[.string s]) (by decide) rfl) (fun i hi => by subst hi; exact ⟨by simp, by omega⟩) (by simp [sumS]; omega) (by simp)
  have HJ := Lib.hid hj
  have HN := Lib.hid (hn1.trans (Nw.of hx2))
  have HS := Lib.hid hs
  clear hj hn1 hx2 hb2 hs
  go_wp2_with fail
  refine HJ.out.mono ?_
  rintro e w3 ⟨⟨r, rfl⟩, hb3, hst3⟩
  have HB3 := Lib.hid hb3
  have HS3 := Lib.hid hst3
  clear hb3 hst3
  go_wp2_with fail
  go_end0
  exact ⟨⟨_, rfl⟩, ⟨s.size, HS.out, by have := HB3.out; simpa [sumS] using this⟩, (Nw.any HN.out _).trans HS3.out.sb⟩
theorem own_int (w : World) (n : Int) : Calls Tryz.prog 94 #[numA n] w fun e w' => e = .returned (.func (.func 141) #[] #[.pointer (some ⟨w.heap.size, 0, none⟩)]) ∧ Ext w w' ∧ Blk w' w.heap.size 34 #[.int .i64 3, .bool false, .int .i64 n, .string ByteArray.empty, .slice none 0 0, .slice none 0 0] := by
  go_enter Tryz.func94, Tryz.ntmps94
  go_wp2_with fail
  go_ret
  exact ⟨rfl, (Ext.refl w).alloc _ _, Blk.new w _ _⟩
theorem bytes_int (w : World) (n : Int) (hf : ∀ W, Nw w W → FmtOK n W) : Calls Tryz.prog 61 #[numA n] w fun e w' => ∃ k : Nat, k ≤ 21 ∧ e = .returned (.int .i64 (k : Int)) ∧ Nw w w' := by
  have ho := fun W => own_int W n
  have HF := Lib.hid hf
  have HO := Lib.hid ho
  clear hf ho
  go_enter Tryz.func61, Tryz.ntmps61
  go_wp2_with fail
  generalize hW0 : World.alloc _ _ = W0
  obtain ⟨hx0, hz0, hb0, hb1⟩ := two_blocks w _ _ _ _ W0 hW0
  have HX0 := Lib.hid hx0
  have HB1 := Lib.hid hb1
  have HZ := Lib.hid hz0
  clear hW0 hx0 hb0 hb1 hz0
  refine (HO.out W0).mono ?_
  rintro e w1 ⟨rfl, hx1, hbv⟩
  have hw1 := HB1.out.ext hx1
  have hn1 := (Nw.of HX0.out).trans (Nw.of hx1)
  have hc := own2_int (m := 0) hbv hw1 (by have := HB1.out.lt; omega) (Nat.zero_le _) (fun W hW => HF.out W (hn1.trans hW))
  have HC := Lib.hid hc
  have HN1 := Lib.hid hn1
  clear hx1 hbv hw1 hn1 hc
  go_wp2_with fail
  refine HC.out.mono ?_
  rintro e w2 ⟨⟨r, rfl⟩, ⟨k, hk, hb⟩, hs⟩
  have c3 : w2.cell? ⟨w.heap.size + 1, 3, none⟩ = some (.int .i64 ((0 + k : Nat) : Int)) := hb.cell 3
  rw [Nat.zero_add] at c3
  have HN2 := Lib.hid (((Nw.any HN1.out (fun b => w.heap.size ≤ b)).trans (hs.mono fun i _ e => by omega)).mono (G := fun _ => False) fun i hi e => by omega)
  have HK := Lib.hid hk
  clear hb hs hk
  go_wp2_with fail
  go_ret
  exact ⟨k, HK.out, rfl, HN2.out⟩
theorem fits_int (w : World) (n : Int) (hf : ∀ W, Nw w W → FmtOK n W) : Calls Tryz.prog 34 #[numA n] w fun e w' => e = .returned (.int .i64 0) ∧ Nw w w' := by
  have hm := fun W => mayV_int W n
  have hd := fun W => deep_int W n
  have hb := fun W (hW : Nw w W) => bytes_int W n fun W' hW' => hf W' (hW.trans hW')
  have HM := Lib.hid hm
  have HD := Lib.hid hd
  have HB := Lib.hid hb
  clear hm hd hb hf
  go_enter Tryz.func34, Tryz.ntmps34
  go_wp2_with fail
  have hx0 := (Ext.refl w).alloc #[.int .i64 3, .bool false, .int .i64 n, .string ByteArray.empty, .slice none 0 0, .slice none 0 0] 34
  have hb0 := Blk.new w 34 #[.int .i64 3, .bool false, .int .i64 n, .string ByteArray.empty, .slice none 0 0, .slice none 0 0]
  refine (HM.out _).mono ?_
  rintro e w1 ⟨rfl, hx1⟩
  have hb1 := hb0.ext hx1
  obtain ⟨q0, q1, q2, q3, q4, q5⟩ := hb1.c6
  have HX1 := Lib.hid (hx0.trans hx1)
  have HB1 := Lib.hid hb1
  clear hx0 hb0 hx1 hb1
  go_wp2_with fail
  refine (HD.out _).mono ?_
  rintro e w2 ⟨rfl, hx2⟩
  have hb2 := HB1.out.ext hx2
  clear q0 q1 q2 q3 q4 q5
  obtain ⟨q0, q1, q2, q3, q4, q5⟩ := hb2.c6
  have HX2 := Lib.hid (HX1.out.trans hx2)
  clear hx2 hb2
  go_wp2_with fail
  refine (HB.out _ (Nw.of HX2.out)).mono ?_
  rintro e w3 ⟨k, hk, rfl, hn3⟩
  have g0 : decide ((1024 : Int) < (k : Int)) = false := decide_eq_false (by omega)
  have HN3 := Lib.hid ((Nw.of HX2.out).trans hn3)
  clear hn3 q0 q1 q2 q3 q4 q5
  go_wp2_with fail
  go_ret
  exact ⟨rfl, HN3.out⟩
def G5 (w W : World) : Prop := ∀ b, b < 6 → W.heap[b]? = w.heap[b]?
theorem G5.refl (w : World) : G5 w w := fun _ _ => rfl
theorem G5.trans {a b c : World} (h : G5 a b) (k : G5 b c) : G5 a c := fun i hi => (k i hi).trans (h i hi)
theorem Sb.g5 {H : Nat → Prop} {w w' : World} (h : Sb H w w') (hz : 6 ≤ w.heap.size) (hH : ∀ b, b < 6 → ¬ H b) : G5 w w' := fun b hb => h.block b (by omega) (hH b hb)
structure Lib0 (w : World) : Prop where
  big : 6 ≤ w.heap.size
  fmt : ∀ W, G5 w W → ∀ n : Int, -9223372036854775808 ≤ n → n ≤ 9223372036854775807 → FmtOK n W
  val : ∀ W, G5 w W → ∀ s : ByteArray, s.size ≤ maxLen → Calls Tryz.prog 136 #[.string s] W fun e w' => e = .returned (.bool (Lib.validD s.data.toList)) ∧ Nw W w'
theorem Lib0.sb {H : Nat → Prop} {w w' : World} (h : Lib0 w) (k : Sb H w w') (hH : ∀ b, b < 6 → ¬ H b) : Lib0 w' :=
  ⟨Nat.le_trans h.big k.size, fun W hW => h.fmt W ((k.g5 h.big hH).trans hW), fun W hW => h.val W ((k.g5 h.big hH).trans hW)⟩
theorem Lib0.nw {w w' : World} (h : Lib0 w) (k : Nw w w') : Lib0 w' := h.sb k fun _ _ e => e
def mayK (k : ByteArray) : Int := if k.size = 0 then 8 else if 64 < k.size then 6 else if Lib.validD k.data.toList then 0 else 3
theorem reason1 {w : World} {B : Nat} {k : ByteArray} (hB : Blk w B 9 #[.string k]) : Calls Tryz.prog 89 #[.pointer (some ⟨B, 0, none⟩)] w fun e w' => e = .returned (.bool (decide (k.size = 0))) ∧ w' = w := by
  have c0 : w.cell? ⟨B, 0, none⟩ = some (.string k) := hB.cell 0
  have hk : k.toList.isEmpty = decide (k.size = 0) := by
    rw [ByteArray.toList_eq]
    by_cases h : k.size = 0
    · have : k.data.toList = [] := List.eq_nil_of_length_eq_zero (by rw [Array.length_toList]; exact h)
      rw [this, decide_eq_true h]; rfl
    · rw [decide_eq_false h]
      cases hl : k.data.toList with
      | nil => exact absurd (by have := congrArg List.length hl; rw [Array.length_toList] at this; exact this) h
      | cons a l => rfl
  have HK := Lib.hid hk
  clear hk
  clear hB
  go_enter Tryz.func89, Tryz.ntmps89
  go_wp2_with fail
  go_ret
  exact ⟨by rw [← HK.out]; rfl, rfl⟩
theorem reason2 {w : World} {B : Nat} {k : ByteArray} (hB : Blk w B 9 #[.string k]) : Calls Tryz.prog 90 #[.pointer (some ⟨B, 0, none⟩)] w fun e w' => e = .returned (.bool (decide (64 < k.size))) ∧ w' = w := by
  have c0 : w.cell? ⟨B, 0, none⟩ = some (.string k) := hB.cell 0
  clear hB
  go_enter Tryz.func90, Tryz.ntmps90
  go_wp2_with fail
  go_ret
  exact ⟨by rw [show decide (64 < k.size) = decide ((64 : Int) < (k.size : Int)) from decide_eq_decide.2 (by omega)]; rfl, rfl⟩
theorem reason3 {w : World} {B : Nat} {k : ByteArray} (hB : Blk w B 9 #[.string k]) (hk : k.size ≤ maxLen) (hL : Lib0 w) : Calls Tryz.prog 91 #[.pointer (some ⟨B, 0, none⟩)] w fun e w' => e = .returned (.bool (!Lib.validD k.data.toList)) ∧ Nw w w' := by
  have c0 : w.cell? ⟨B, 0, none⟩ = some (.string k) := hB.cell 0
  have hu : ∀ W, G5 w W → Calls Tryz.prog 92 #[.string k] W fun e w' => e = .returned (.bool (Lib.validD k.data.toList)) ∧ Nw W w' := fun W hW => by
    have hv := hL.val W hW k hk
    have HV := Lib.hid hv
    clear hv hL hB c0 hW
    go_enter Tryz.func92, Tryz.ntmps92
    go_wp2_with fail
    refine HV.out.mono ?_
    rintro e w' ⟨rfl, hn⟩
    have HN := Lib.hid hn
    clear hn
    go_wp2_with fail
    go_ret
    exact ⟨rfl, HN.out⟩
  have HU := Lib.hid (hu w (G5.refl w))
  clear hB hL hu
  go_enter Tryz.func91, Tryz.ntmps91
  go_wp2_with fail
  refine HU.out.mono ?_
  rintro e w' ⟨rfl, hn⟩
  have HN := Lib.hid hn
  clear hn
  go_wp2_with fail
  go_ret
  exact ⟨rfl, HN.out⟩
abbrev reasonsC (B : Nat) : Array Value := #[.int .i64 8, .func (.func 89) #[] #[.pointer (some ⟨B, 0, none⟩)], .int .i64 6, .func (.func 90) #[] #[.pointer (some ⟨B, 0, none⟩)], .int .i64 3, .func (.func 91) #[] #[.pointer (some ⟨B, 0, none⟩)]]
theorem reasons_any (w : World) (k : ByteArray) : Calls Tryz.prog 58 #[.string k] w fun e w' => e = .returned (.slice (some ⟨w.heap.size + 1, 0, none⟩) 3 3) ∧ Ext w w' ∧ Blk w' w.heap.size 9 #[.string k] ∧ ∃ t, Blk w' (w.heap.size + 1) t (reasonsC w.heap.size) := by
  go_enter Tryz.func58, Tryz.ntmps58
  go_wp2_with fail
  go_ret
  generalize hW0 : World.alloc _ _ = W0
  obtain ⟨hx0, hz0, hb0, hb1⟩ := two_blocks w _ _ _ _ W0 hW0
  exact ⟨rfl, hx0, hb0, _, hb1⟩
theorem run_store_funcO (P : Program) (w : World) (a : Addr) (f : Fn) (ta lb : Array Value) (m : Mode) : (store a (.func f ta lb) m).run P w = stored P w a (.func f ta lb) m := run_store P w a _ m rfl
attribute [local go_sem] run_store_funcO
theorem keysMay_any {w : World} {k : ByteArray} (hk : k.size ≤ maxLen) (hL : Lib0 w) : Calls Tryz.prog 33 #[.string k] w fun e w' => e = .returned (.int .i64 (mayK k)) ∧ Nw w w' := by
  have hr := fun W => reasons_any W k
  have HR := Lib.hid hr
  have HL := Lib.hid hL
  clear hr hL
  go_enter Tryz.func33, Tryz.ntmps33
  go_wp2_with fail
  refine (HR.out w).mono ?_
  rintro e w1 ⟨rfl, hx1, hb0, t, hb1⟩
  have HX1 := Lib.hid hx1
  have HB0 := Lib.hid hb0
  have HB1 := Lib.hid hb1
  have HL1 := Lib.hid (HL.out.nw (Nw.of hx1))
  have l1 := hb1.lt
  clear hx1 hb0 hb1 HR
  go_wp2_with fail
  go_loopw [8] (fun q wr => ∃ j : Nat, q = .int .i64 (j : Int) ∧ j ≤ 3 ∧ (1 ≤ j → k.size ≠ 0) ∧ (2 ≤ j → k.size ≤ 64) ∧ (3 ≤ j → Lib.validD k.data.toList = true) ∧ Nw w1 wr) (fun q _ => 3 - (intOf q).toNat)
  case atStart => exact ⟨0, rfl, by omega, by omega, by omega, by omega, Sb.refl _ _⟩
  case round =>
    obtain ⟨j, rfl, hj, h1, h2, h3, hn⟩ := hrel
    have hb0 := hn.blk HB0.out
    have hb1 := Nw.blk hn HB1.out
    have c0 : wr.cell? ⟨w.heap.size + 1, 0, none⟩ = some (.int .i64 8) := hb1.cell 0
    have c1 : wr.cell? ⟨w.heap.size + 1, 1, none⟩ = some (.func (.func 89) #[] #[.pointer (some ⟨w.heap.size, 0, none⟩)]) := hb1.cell 1
    have c2 : wr.cell? ⟨w.heap.size + 1, 2, none⟩ = some (.int .i64 6) := hb1.cell 2
    have c3 : wr.cell? ⟨w.heap.size + 1, 3, none⟩ = some (.func (.func 90) #[] #[.pointer (some ⟨w.heap.size, 0, none⟩)]) := hb1.cell 3
    have c4 : wr.cell? ⟨w.heap.size + 1, 4, none⟩ = some (.int .i64 3) := hb1.cell 4
    have c5 : wr.cell? ⟨w.heap.size + 1, 5, none⟩ = some (.func (.func 91) #[] #[.pointer (some ⟨w.heap.size, 0, none⟩)]) := hb1.cell 5
    have HN := Lib.hid hn
    have HB := Lib.hid hb0
    clear hb0 hb1 hn
    rcases (by omega : j = 0 ∨ j = 1 ∨ j = 2 ∨ j = 3) with rfl | rfl | rfl | rfl
    · go_wp2_with fail
      have hx4 := (Ext.refl wr).alloc #[.int .i64 8, .func (.func 89) #[] #[.pointer (some ⟨w.heap.size, 0, none⟩)]] 114
      have hb4 := HB.out.ext hx4
      have hn4 := HN.out.trans (Nw.of hx4)
      have HN4 := Lib.hid hn4
      have HB4 := Lib.hid (Blk.new wr 114 #[.int .i64 8, .func (.func 89) #[] #[.pointer (some ⟨w.heap.size, 0, none⟩)]])
      clear hx4 hn4 c0 c1 c2 c3 c4 c5
      refine ((reason1 hb4).mono fun e w' h => (show e = _ ∧ Nw _ w' from ⟨h.1, by rw [h.2]; exact Sb.refl _ _⟩)).mono ?_
      rintro e w4 ⟨rfl, hn5⟩
      have hb5 := Nw.blk hn5 HB4.out
      have c0 : w4.cell? ⟨wr.heap.size, 0, none⟩ = some (.int .i64 8) := hb5.cell 0
      have HN5 := Lib.hid (HN4.out.trans hn5)
      clear hn5 hb5 hb4
      by_cases hc : k.size = 0
      · have g0 : decide (k.size = 0) = true := decide_eq_true hc
        rw [g0]
        go_wp2_with fail
        go_ret
        exact ⟨by rw [show mayK k = 8 by rw [mayK, if_pos hc]] <;> rfl, (Nw.of HX1.out).trans HN5.out⟩
      · have g0 : decide (k.size = 0) = false := decide_eq_false hc
        rw [g0]
        go_wp2_with fail
        exact ⟨⟨1, by go_num, by omega, fun _ => hc, by omega, by omega, HN5.out⟩, by simp [intOf]⟩
    · go_wp2_with fail
      have hx4 := (Ext.refl wr).alloc #[.int .i64 6, .func (.func 90) #[] #[.pointer (some ⟨w.heap.size, 0, none⟩)]] 114
      have hb4 := HB.out.ext hx4
      have hn4 := HN.out.trans (Nw.of hx4)
      have HN4 := Lib.hid hn4
      have HB4 := Lib.hid (Blk.new wr 114 #[.int .i64 6, .func (.func 90) #[] #[.pointer (some ⟨w.heap.size, 0, none⟩)]])
      clear hx4 hn4 c0 c1 c2 c3 c4 c5
      refine ((reason2 hb4).mono fun e w' h => (show e = _ ∧ Nw _ w' from ⟨h.1, by rw [h.2]; exact Sb.refl _ _⟩)).mono ?_
      rintro e w4 ⟨rfl, hn5⟩
      have hb5 := Nw.blk hn5 HB4.out
      have c0 : w4.cell? ⟨wr.heap.size, 0, none⟩ = some (.int .i64 6) := hb5.cell 0
      have HN5 := Lib.hid (HN4.out.trans hn5)
      clear hn5 hb5 hb4
      by_cases hc : 64 < k.size
      · have g0 : decide (64 < k.size) = true := decide_eq_true hc
        rw [g0]
        go_wp2_with fail
        go_ret
        exact ⟨by rw [show mayK k = 6 by rw [mayK, if_neg (h1 (by omega)), if_pos hc]] <;> rfl, (Nw.of HX1.out).trans HN5.out⟩
      · have g0 : decide (64 < k.size) = false := decide_eq_false hc
        rw [g0]
        go_wp2_with fail
        exact ⟨⟨2, by go_num, by omega, fun _ => h1 (by omega), fun _ => by omega, by omega, HN5.out⟩, by simp [intOf]⟩
    · go_wp2_with fail
      have hx4 := (Ext.refl wr).alloc #[.int .i64 3, .func (.func 91) #[] #[.pointer (some ⟨w.heap.size, 0, none⟩)]] 114
      have hb4 := HB.out.ext hx4
      have hn4 := HN.out.trans (Nw.of hx4)
      have HN4 := Lib.hid hn4
      have HB4 := Lib.hid (Blk.new wr 114 #[.int .i64 3, .func (.func 91) #[] #[.pointer (some ⟨w.heap.size, 0, none⟩)]])
      clear hx4 c0 c1 c2 c3 c4 c5
      refine (reason3 hb4 hk (HL1.out.nw hn4)).mono ?_
      rintro e w4 ⟨rfl, hn5⟩
      have hb5 := Nw.blk hn5 HB4.out
      have c0 : w4.cell? ⟨wr.heap.size, 0, none⟩ = some (.int .i64 3) := hb5.cell 0
      have HN5 := Lib.hid (HN4.out.trans hn5)
      clear hn5 hb5 hb4
      by_cases hc : Lib.validD k.data.toList = false
      · have g0 : (!Lib.validD k.data.toList) = true := by rw [hc]; rfl
        rw [g0]
        go_wp2_with fail
        go_ret
        exact ⟨by rw [show mayK k = 3 by rw [mayK, if_neg (h1 (by omega)), if_neg (by have := h2 (by omega); omega), if_neg (by rw [hc]; simp)]] <;> rfl, (Nw.of HX1.out).trans HN5.out⟩
      · have g0 : (!Lib.validD k.data.toList) = false := by rw [Bool.not_eq_false] at hc; rw [hc]; rfl
        rw [g0]
        go_wp2_with fail
        exact ⟨⟨3, by go_num, by omega, fun _ => h1 (by omega), fun _ => h2 (by omega), fun _ => by simpa using hc, HN5.out⟩, by simp [intOf]⟩
    · go_wp2_with fail
      go_ret
      exact ⟨by rw [show mayK k = 0 by rw [mayK, if_neg (h1 (by omega)), if_neg (by have := h2 (by omega); omega), if_pos (h3 (by omega))]]; rfl, (Nw.of HX1.out).trans HN.out⟩
end Go.Proofs.YtechahocffcbpaaGreatDoor
namespace Go.Proofs.YtechahocffcbpaaGreatDoor
open Go.RowKit Go.Maps Go.Shelf
set_option linter.unusedVariables false
set_option linter.unusedSimpArgs false
theorem num12_any (w : World) (n : Int) : Calls Tryz.prog 9 #[.int .i64 n] w fun e w' => e = .returned (numA n) ∧ Ext w w' := by
  go_enter Tryz.func9, Tryz.ntmps9
  go_wp2_with fail
  refine bodyPost_ret (v := numA n) (by simp [results, Tryz.results9, go_sem]; rfl) rfl ?_
  exact ⟨rfl, (Ext.refl w).alloc _ _⟩
theorem same12_refl {w : World} {F F' : Nat → Prop} {s s' : Sl} {xs : List ByteArray} (h : Rd w F 1 s xs.length (xs.map .string)) (hF : ∀ b, F b → b < w.heap.size) (h' : Rd w F' 1 s' xs.length (xs.map .string)) (hF' : ∀ b, F' b → b < w.heap.size) (hn : xs.length ≤ 1000000000) :
    Calls Tryz.prog 28 #[.slice s.a xs.length s.c, .slice s'.a xs.length s'.c] w fun e w' => e = .returned (.bool true) ∧ Ext w w' := by
  obtain ⟨b, o, h1, -, h3⟩ := h
  obtain ⟨b', o', h1', -, h3'⟩ := h'
  have H1 := Lib.hid h1
  have H1' := Lib.hid h1'
  have H3 := Lib.hid h3
  have H3' := Lib.hid h3'
  have HF := Lib.hid hF
  have HF' := Lib.hid hF'
  have hne : (((xs.length : Int)) != ((xs.length : Int))) = false := by simp
  clear h1 h1' h3 h3' hF hF'
  go_enter Tryz.func28, Tryz.ntmps28
  go_wp2_with fail
  go_loopw [5] (fun q wr => ∃ j : Nat, q = .int .i64 j ∧ j ≤ xs.length ∧ Ext w wr) (fun q _ => xs.length - (intOf q).toNat)
  case atStart => exact ⟨0, rfl, Nat.zero_le _, Ext.refl w⟩
  case round =>
    obtain ⟨j, rfl, hjl, hx⟩ := hrel
    by_cases hlt : j < xs.length
    · have g1 : (j : Int) < (xs.length : Int) := by omega
      obtain ⟨x, hxx⟩ : ∃ x, xs[j]? = some x := ⟨_, List.getElem?_eq_getElem hlt⟩
      obtain ⟨e1, hc, hcm⟩ := H1.out.eq (by omega)
      obtain ⟨e1', hc', hcm'⟩ := H1'.out.eq (by omega)
      have lg := HF.out b (H1.out.fits (by omega))
      have lg' := HF'.out b' (H1'.out.fits (by omega))
      obtain ⟨sa, sc⟩ := s
      obtain ⟨sa', sc'⟩ := s'
      dsimp only at e1 e1' hc hc' hcm hcm'
      subst e1 e1'
      have c0 : wr.cell? ⟨b, o + j, none⟩ = some (.string x) := (hx.cell lg).trans (H3.out j _ (by rw [List.getElem?_map, hxx]; rfl))
      have c0' : wr.cell? ⟨b', o' + j, none⟩ = some (.string x) := (hx.cell lg').trans (H3'.out j _ (by rw [List.getElem?_map, hxx]; rfl))
      have hxe : (x.toList != x.toList) = false := by simp
      have HX := Lib.hid hx
      clear hx hxx lg lg'
      go_wp2_with fail
      go_quiet (fail)
      go_wp2_with fail
      go_roundw
      case rel => exact ⟨j + 1, by go_num, hlt, HX.out.drewN _⟩
      case measure => simp [intOf]; omega
    · obtain rfl : j = xs.length := by omega
      have HX := Lib.hid hx
      clear hx
      go_wp2_with fail
      go_ret
      exact ⟨rfl, HX.out⟩
theorem rv_numO (w : World) (F : Nat → Prop) {n : Int} (wn : (Lit.int .i64 n).wf = true) : RV w F (numV n) Sl.none Sl.none := RV.flat _ _ _ _ _ _ (by decide) wn (by decide)
theorem tree_oneO {w : World} {g : Nat} {a : ByteArray} {n : Int} (ha : a.size ≤ maxLen) (wn : (Lit.int .i64 n).wf = true)
    (hb : Blk w g 64 #[.string a, .int .i64 3, .bool false, .int .i64 n, .string ByteArray.empty, .slice none 0 0, .slice none 0 0]) :
    Calls Tryz.prog 24 #[.slice (some ⟨g, 0, none⟩) 1 1] w fun e w' => ∃ (T : RT), e = .returned (treeV T) ∧ OkR T ∧ entsT T = [(a, numV n)] ∧ IsT w' (In w.heap.size w'.heap.size) T ∧ Ext w w' := by
  have es : ES w (Lt w.heap.size) ⟨some ⟨g, 0, none⟩, 1⟩ [⟨a, numV n, Sl.none, Sl.none⟩] :=
    ⟨(Rd.block (cs := flatE [⟨a, numV n, Sl.none, Sl.none⟩]) (n := 1) (size := 7) (by simp [flatE, LE.cells]; exact hb) (by decide) (by simp [flatE, LE.cells])).mono fun i hi => by subst hi; exact hb.lt, fun z hz => by
      obtain rfl := List.mem_singleton.1 hz; exact ⟨rv_numO _ _ wn, ha⟩, by simp⟩
  refine (build_any es (show 1 ≤ 100000 by omega)).mono ?_
  rintro e w' ⟨T, rfl, hbt, hT, hx⟩
  exact ⟨T, rfl, hbt.both.1, by rw [hbt.both.2]; show putAll [] [(a, numV n)] = _; simp [putAll, insE], hT, hx⟩
theorem OvTo.since {H : Nat → Prop} {w0 w w' : World} {O : Nat} {d d' : OD} (h : OvTo H w O d d' w') (k : Nw w0 w) (hb : ∀ b, OvB O d b → w0.heap.size ≤ b) : Nw w0 w' ∧ ∀ b, OvB O d' b → w0.heap.size ≤ b :=
  ⟨k.comp h.sb fun i hi e => by have := hb i e; omega, fun b e => (h.new b e).elim (hb b) fun hh => Nat.le_trans k.size hh⟩
abbrev kAo : ByteArray := ⟨#[97]⟩
abbrev kBo : ByteArray := ⟨#[98]⟩
abbrev kEo : ByteArray := ⟨#[]⟩
theorem begins_all (k : ByteArray) : beginsO kEo k = true := by
  have h : (ByteArray.mk #[]).toList = [] := by rw [ByteArray.toList_eq]
  show (ByteArray.toList _).isPrefixOf _ = true
  rw [h]; rfl
theorem may_bo : mayK kBo = 0 := by decide +kernel
theorem now_b {d : OD} {s : SV} (hT : entsT d.T = [(kAo, numV 1)]) (hC : d.C = putA [] kBo s) : d.now kAo = some (numV 1) := by
  rw [now_none (by rw [hC, getA_put, if_neg (by decide)]; rfl), hT]
  simp [getE]
theorem pre_b {d : OD} {s z : SV} (hT : entsT d.T = [(kAo, numV 1)]) (hC : d.C = putA (putA [] kBo s) kAo z) (hs : s.has = true) (hz : z.has = false) {ks : List ByteArray} (hr : ks.Pairwise fun x y => klt x y = true)
    (hm : ∀ k, k ∈ ks ↔ (beginsO kEo k = true ∧ (d.now k).isSome = true)) : ks = [kBo] := by
  refine rise_ext hr (List.pairwise_singleton _ _) fun k => ?_
  rw [hm k, begins_all]
  have hg : getA d.C k = if k = kAo then some z else if k = kBo then some s else none := by rw [hC, getA_put, getA_put]; rfl
  by_cases h1 : k = kAo
  · subst h1
    rw [if_pos rfl] at hg
    rw [now_some hg]
    simp [SV.opt, hz]
  · rw [if_neg h1] at hg
    by_cases h2 : k = kBo
    · subst h2
      rw [if_pos rfl] at hg
      rw [now_some hg]
      simp [SV.opt, hs]
    · rw [if_neg h2] at hg
      rw [now_none hg, hT]
      simp [getE, h1, h2]
      exact fun h => h1 h.symm
theorem pre_a {d : OD} (hT : entsT d.T = [(kAo, numV 1)]) (hC : d.C = []) {ks : List ByteArray} (hr : ks.Pairwise fun x y => klt x y = true)
    (hm : ∀ k, k ∈ ks ↔ (beginsO kEo k = true ∧ (d.now k).isSome = true)) : ks = [kAo] := by
  refine rise_ext hr (List.pairwise_singleton _ _) fun k => ?_
  rw [hm k, begins_all, now_none (by rw [hC]; rfl), hT]
  by_cases h1 : k = kAo
  · subst h1; simp [getE]
  · simp [getE, h1]
    exact fun h => h1 h.symm
theorem rd_one (w : World) (k : ByteArray) : Rd (w.alloc (.cells #[.string k] 9)) (fun b => b = w.heap.size) 1 ⟨some ⟨w.heap.size, 0, none⟩, 1⟩ 1 [.string k] :=
  Rd.block (cs := [.string k]) (n := 1) (size := 1) (Blk.new w _ _) (by decide) rfl
theorem put_bo {w : World} {O : Nat} {T : RT} (hL : Lib0 w) (h0 : OvAt (fun _ => False) w O (od0 T)) : Calls Tryz.prog 10 #[.pointer (some ⟨O, 0, none⟩), .string kBo, numA 2] w (PutPostO (fun _ => False) O (od0 T) kBo (numV 2) w) := by
  have hmay : ∀ W, Nw w W → Calls Tryz.prog 33 #[.string kBo] W fun e w' => e = .returned (.int .i64 0) ∧ Nw W w' := fun W hW => by
    have h := keysMay_any (w := W) (k := kBo) (by decide) (hL.nw hW)
    rw [may_bo] at h
    exact h
  have hfit : ∀ W, Nw w W → Calls Tryz.prog 34 #[numA 2] W fun e w' => e = .returned (.int .i64 0) ∧ Nw W w' := fun W hW =>
    fits_int W 2 fun W' hW' => (hL.nw (hW.trans hW')).fmt _ (G5.refl _) 2 (by decide) (by decide)
  have hl : (od0 T).us.length ≤ 1000000 := Nat.zero_le _
  have hk : kBo.size ≤ maxLen := by decide
  have hv : RV w (Lt w.heap.size) (numV 2) Sl.none Sl.none := rv_numO _ _ (by decide)
  exact put_ov (v := numV 2) (sl := Sl.none) (so := Sl.none) h0 (fun b h => h.elim) hl hk hv hmay hfit
theorem known12 {w : World} (hL : Lib0 w) : Calls Tryz.prog 14 #[] w fun e w' => e = .returned (.bool true) ∧ Nw w w' := by
  have HL := Lib.hid hL
  clear hL
  go_enter Tryz.func14, Tryz.ntmps14
  go_wp2_with fail
  refine (num12_any _ 1).mono ?_
  rintro e w1 ⟨rfl, hx1⟩
  have HX1 := Lib.hid hx1
  clear hx1
  go_wp2_with fail
  refine (tree_oneO (a := kAo) (n := 1) (by decide) (by decide) (Blk.new w1 _ _)).mono ?_
  rintro e w2 ⟨T, rfl, ok, he, hT, hx2⟩
  have hx02 := HX1.out.trans (((Ext.refl w1).alloc _ _).trans hx2)
  have hbg := begin_ov (H := fun _ => False) hT ok (fun b hb => ⟨hb.2, id⟩) (fun b h => h.elim)
  obtain ⟨p, hp⟩ := rootV_ptr T
  rw [treeV, hp] at hbg
  rw [treeV, hp]
  have HX2 := Lib.hid hx02
  have HBG := Lib.hid hbg
  have HE := Lib.hid he
  clear hx02 hbg he ok hT hx2 HX1 hp
  go_wp2_with fail
  refine HBG.out.mono ?_
  rintro e w3 ⟨O, rfl, hO, h0, hx3⟩
  have hn3 : Nw w w3 := Nw.of (HX2.out.trans hx3)
  have ho3 : ∀ b, OvB O (od0 T) b → w.heap.size ≤ b := fun b hb => by
    have := HX2.out.size
    rcases hb with rfl | hb | hb
    · omega
    · cases hb
    · cases hb
  have hmk : Calls Tryz.prog 18 #[.pointer (some ⟨O, 0, none⟩)] w3 fun e w' => e = .returned (.int .i64 0) ∧ Ext w3 w' := mark_ov h0
  have HN3 := Lib.hid hn3
  have HO3 := Lib.hid ho3
  have HMK := Lib.hid hmk
  have H0 := Lib.hid h0
  clear hx3 h0 hn3 ho3 hmk HBG hO HX2
  go_wp2_with fail
  refine HMK.out.mono ?_
  rintro e w4 ⟨rfl, hx4⟩
  have HX4 := Lib.hid hx4
  clear hx4 HMK
  go_wp2_with fail
  refine (num12_any _ 2).mono ?_
  rintro e w5 ⟨rfl, hx5⟩
  have hx35 := HX4.out.trans hx5
  have hn5 := HN3.out.trans (Nw.of hx35)
  have hput : Calls Tryz.prog 10 #[.pointer (some ⟨O, 0, none⟩), .string kBo, numA 2] w5 (PutPostO (fun _ => False) O (od0 T) kBo (numV 2) w5) :=
    put_bo (HL.out.nw hn5) (H0.out.ext hx35)
  have HN5 := Lib.hid hn5
  have HPUT := Lib.hid hput
  clear hx5 hx35 hn5 hput HX4 H0 HL HN3
  go_wp2_with fail
  refine HPUT.out.mono ?_
  rintro e w6 ⟨rfl, sl, so, mb, s, hto⟩
  obtain ⟨hn6, ho6⟩ := hto.since HN5.out HO3.out
  obtain ⟨d1, hd1⟩ : ∃ d, d = (od0 T).step kBo ⟨true, numV 2, sl, so⟩ mb s := ⟨_, rfl⟩
  have hT1 : entsT d1.T = [(kAo, numV 1)] := by rw [hd1]; exact HE.out
  have hC1 : d1.C = putA [] kBo ⟨true, numV 2, sl, so⟩ := by rw [hd1]; rfl
  have hl1 : d1.us.length = 1 := by rw [hd1]; rfl
  have h6 := hto.at_
  rw [← hd1] at h6 ho6
  have hdel := delete_ov h6 (fun b h => h.elim) (by rw [hl1]; decide) (by rw [hT1]; decide) (k := kAo) (by decide)
  unfold DelPostO at hdel
  rw [now_b hT1 hC1] at hdel
  have HN6 := Lib.hid hn6
  have HO6 := Lib.hid ho6
  have HDEL := Lib.hid hdel
  have HC1 := Lib.hid hC1
  have HT1 := Lib.hid hT1
  have HL1 := Lib.hid hl1
  clear hto hn6 ho6 hd1 hT1 hC1 hl1 h6 hdel HPUT HN5 HO3 HE
  go_wp2_with fail
  refine HDEL.out.mono ?_
  rintro e w7 ⟨rfl, ⟨hf, -⟩ | ⟨-, mb2, s2, hto⟩⟩
  · cases hf
  obtain ⟨hn7, ho7⟩ := hto.since HN6.out HO6.out
  obtain ⟨d2, hd2⟩ : ∃ d, d = d1.step kAo zeroSV mb2 s2 := ⟨_, rfl⟩
  have hT2 : entsT d2.T = [(kAo, numV 1)] := by rw [hd2]; exact HT1.out
  have hC2 : d2.C = putA (putA [] kBo ⟨true, numV 2, sl, so⟩) kAo zeroSV := by rw [hd2, ← HC1.out]; rfl
  have hl2 : d2.us.length = 2 := by rw [hd2]; show (d1.us ++ [_]).length = 2; rw [List.length_append, HL1.out]; rfl
  have h7 := hto.at_
  rw [← hd2] at h7 ho7
  have hpre := prefix_ov h7 (by rw [hT2]; decide) (by rw [hl2]; decide) (p := kEo) (by decide)
  have HN7 := Lib.hid hn7
  have HO7 := Lib.hid ho7
  have HPRE := Lib.hid hpre
  have HC2 := Lib.hid hC2
  have HT2 := Lib.hid hT2
  have HL2 := Lib.hid hl2
  have H7 := Lib.hid h7
  clear hto hn7 ho7 hd2 hT2 hC2 hl2 h7 hpre HDEL HN6 HO6 HC1 HT1 HL1
  go_wp2_with fail
  refine HPRE.out.mono ?_
  rintro e w8 ⟨sp, ks, rfl, hn8, hrd, hri, hm⟩
  obtain rfl := pre_b HT2.out HC2.out rfl rfl hri hm
  have h8 := H7.out.nw hn8
  have hbk : Calls Tryz.prog 20 #[.pointer (some ⟨O, 0, none⟩), .int .i64 0] w8 (BackPost (fun _ => False) O d2 0 w8) := back_ov h8 (by rw [HL2.out]; decide) (m := 0) (Nat.zero_le _)
  have HN8 := Lib.hid (HN7.out.trans hn8)
  have HRD := Lib.hid hrd
  have HBK := Lib.hid hbk
  have HB8 := Lib.hid (fun b (hb : In w7.heap.size w8.heap.size b) => (⟨fun e => by have := H7.out.own_lt e; have := hb.1; omega, hb.2⟩ : ¬ OvB O d2 b ∧ b < w8.heap.size))
  clear hn8 hrd hri hm h8 hbk HPRE HN7 H7 HC2 HL2
  go_wp2_with fail
  refine HBK.out.mono ?_
  rintro e w9 ⟨rfl, hto⟩
  obtain ⟨hn9, ho9⟩ := hto.since HN8.out HO7.out
  obtain ⟨d3, hd3⟩ : ∃ d : OD, d = ⟨d2.T, d2.mb, d2.s, d2.us.take 0, d2.Hs.take (0 + 1), backA d2.us d2.C 0⟩ := ⟨_, rfl⟩
  have h9 := hto.at_
  rw [← hd3] at h9
  have hl3 : d3.us.length = 0 := by rw [hd3]; rfl
  have hC3 : d3.C = [] := by
    have a := h9.h0
    have b := h9.last
    rw [hl3, a] at b
    exact (Option.some.inj b).symm
  have hT3 : entsT d3.T = [(kAo, numV 1)] := by rw [hd3]; exact HT2.out
  have hrd9 : Rd w9 (In w7.heap.size w8.heap.size) 1 sp 1 [.string kBo] := HRD.out.agree fun b hb => hto.sb.block b (HB8.out b hb).2 (HB8.out b hb).1
  have hsm : ∀ W, Nw w9 W → Calls Tryz.prog 28 #[.slice sp.a 1 sp.c, .slice (some ⟨W.heap.size, 0, none⟩) 1 1] (W.alloc (.cells #[.string kBo] 9)) fun e w' => e = .returned (.bool true) ∧ Ext (W.alloc (.cells #[.string kBo] 9)) w' := fun W hW =>
    same12_refl (xs := [kBo]) (s := sp) (s' := ⟨some ⟨W.heap.size, 0, none⟩, 1⟩) (hrd9.agree (Nw.agree (hW.trans (Nw.of ((Ext.refl W).alloc #[.string kBo] 9))) fun b hb => Nat.lt_of_lt_of_le (HB8.out b hb).2 hto.sb.size))
      (fun b hb => Nat.lt_of_lt_of_le (HB8.out b hb).2 (Nat.le_trans hto.sb.size (Nat.le_trans hW.size ((Ext.refl W).alloc #[.string kBo] 9).size))) (rd_one W kBo) (fun b hb => by rw [hb, World.size_alloc]; omega) (by decide)
  have hpre := fun W (hW : Nw w9 W) => prefix_ov (h9.nw hW) (by rw [hT3]; decide) (by rw [hl3]; decide) (p := kEo) (by decide)
  have HN9 := Lib.hid hn9
  have HSM := Lib.hid hsm
  have HPRE := Lib.hid hpre
  have HC3 := Lib.hid hC3
  have HT3 := Lib.hid hT3
  clear hto hn9 ho9 hd3 h9 hl3 hC3 hT3 hrd9 hsm hpre HBK HN8 HRD HO7 HB8 HT2
  go_wp2_with fail
  refine (HSM.out _ (Nw.of (Ext.refl _))).mono ?_
  rintro e w10 ⟨rfl, hx10⟩
  have HX10 := Lib.hid (((Ext.refl w9).alloc #[.string kBo] 9).trans hx10)
  clear hx10 HSM
  go_wp2_with fail
  refine (HPRE.out _ (Nw.of HX10.out)).mono ?_
  rintro e w11 ⟨sq, ks, rfl, hn11, hrd, hri, hm⟩
  obtain rfl := pre_a HT3.out HC3.out hri hm
  have hsm : Calls Tryz.prog 28 #[.slice sq.a 1 sq.c, .slice (some ⟨w11.heap.size, 0, none⟩) 1 1] (w11.alloc (.cells #[.string kAo] 9)) fun e w' => e = .returned (.bool true) ∧ Ext (w11.alloc (.cells #[.string kAo] 9)) w' :=
    same12_refl (xs := [kAo]) (s := sq) (s' := ⟨some ⟨w11.heap.size, 0, none⟩, 1⟩) (hrd.agree (Nw.agree (Nw.of ((Ext.refl w11).alloc #[.string kAo] 9)) fun b hb => hb.2))
      (fun b hb => by have := hb.2; rw [World.size_alloc]; omega) (rd_one w11 kAo) (fun b hb => by rw [hb, World.size_alloc]; omega) (by decide)
  have HN11 := Lib.hid ((HN9.out.trans (Nw.of HX10.out)).trans hn11)
  have HSM := Lib.hid hsm
  clear hn11 hrd hri hm hsm HPRE HX10 HN9 HC3 HT3
  go_wp2_with fail
  refine HSM.out.mono ?_
  rintro e w12 ⟨rfl, hx12⟩
  have HN12 := Lib.hid (HN11.out.trans (Nw.of (((Ext.refl w11).alloc #[.string kAo] 9).trans hx12)))
  clear hx12 HSM HN11
  go_wp2_with fail
  go_ret
  exact ⟨rfl, HN12.out⟩
end Go.Proofs.YtechahocffcbpaaGreatDoor
