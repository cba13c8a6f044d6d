/- The log: New, Len, Newest, Oldest, place, Put, At. -/
import Derived.Test.YtpapoalgocmlaaaPut
namespace Go.Proofs.Ytpapoalgocmlaaa
open Go.RowKit
set_option linter.unusedVariables false
set_option linter.unusedSimpArgs false

theorem Try.infoTree : (Try.prog.info? 30).map (fun i => (i.zero, i.size, i.bytes)) = some (some (.agg #[.pointer none]), 1, 8) := by kernel_rfl

/-- A log in memory: its block L, its ring's block R, of n trees; the newest version, and how many there are. -/
structure IsL (w : World) (L R n newest count : Nat) (ring : List Value) : Prop where
  mem : ∃ (c : Nat) (ex : List Value), n ≤ c ∧ c ≤ maxLen ∧ Blk w L 71 #[.slice (some ⟨R, 0, none⟩) n c, .int .u64 newest, .int .i64 count] ∧ Blk w R 30 (ring ++ ex).toArray
  len : ring.length = n
  ne : L ≠ R
  pos : 1 ≤ n
  small : n ≤ 1024
  few : count ≤ n
  num : newest ≤ 4611686018427387903
  cnt : count ≤ newest + 1
  ptr : ∀ x ∈ ring, ∃ q, x = .pointer q
theorem Blk.c3 {w : World} {g : Nat} {t : TypeId} {v0 v1 v2 : Value} (h : Blk w g t #[v0, v1, v2]) : w.cell? ⟨g, 0, none⟩ = some v0 ∧ w.cell? ⟨g, 1, none⟩ = some v1 ∧ w.cell? ⟨g, 2, none⟩ = some v2 := ⟨h.cell 0, h.cell 1, h.cell 2⟩
theorem IsL.ltL {w : World} {L R n newest count : Nat} {ring : List Value} (h : IsL w L R n newest count ring) : L < w.heap.size := by
  obtain ⟨_, _, -, -, h1, -⟩ := h.mem
  exact h1.lt
theorem IsL.ltR {w : World} {L R n newest count : Nat} {ring : List Value} (h : IsL w L R n newest count ring) : R < w.heap.size := by
  obtain ⟨_, _, -, -, -, h2⟩ := h.mem
  exact h2.lt
theorem IsL.c3 {w : World} {L R n newest count : Nat} {ring : List Value} (h : IsL w L R n newest count ring) : ∃ c, n ≤ c ∧ c ≤ maxLen ∧ w.cell? ⟨L, 0, none⟩ = some (.slice (some ⟨R, 0, none⟩) n c) ∧ w.cell? ⟨L, 1, none⟩ = some (.int .u64 newest) ∧ w.cell? ⟨L, 2, none⟩ = some (.int .i64 count) := by
  obtain ⟨c, _, h1, h2, h3, -⟩ := h.mem
  exact ⟨c, h1, h2, h3.c3⟩
theorem IsL.fzL {w : World} {L R n newest count : Nat} {ring : List Value} (h : IsL w L R n newest count ring) (o : Nat) : w.frozen? ⟨L, o, none⟩ = false := by
  obtain ⟨_, _, -, -, h1, -⟩ := h.mem
  exact h1.frozen o
theorem IsL.fzR {w : World} {L R n newest count : Nat} {ring : List Value} (h : IsL w L R n newest count ring) (o : Nat) : w.frozen? ⟨R, o, none⟩ = false := by
  obtain ⟨_, _, -, -, -, h2⟩ := h.mem
  exact h2.frozen o
theorem IsL.at_ {w : World} {L R n newest count : Nat} {ring : List Value} (h : IsL w L R n newest count ring) {p : Nat} {x : Value} (hx : ring[p]? = some x) : w.cell? ⟨R, p, none⟩ = some x := by
  obtain ⟨_, ex, -, -, -, h2⟩ := h.mem
  have hp := (List.getElem?_eq_some_iff.1 hx).1
  rw [h2.cell, List.getElem?_toArray, List.getElem?_append_left hp]
  exact hx
theorem IsL.agree {w w' : World} {L R n newest count : Nat} {ring : List Value} (h : IsL w L R n newest count ring) {F : Nat → Prop} (ha : Agree F w w') (h1 : F L) (h2 : F R) : IsL w' L R n newest count ring :=
  ⟨h.mem.elim fun c ⟨ex, a1, a2, a3, a4⟩ => ⟨c, ex, a1, a2, a3.agree ha h1, a4.agree ha h2⟩, h.len, h.ne, h.pos, h.small, h.few, h.num, h.cnt, h.ptr⟩
theorem IsL.ext {w w' : World} {L R n newest count : Nat} {ring : List Value} (h : IsL w L R n newest count ring) (he : Ext w w') : IsL w' L R n newest count ring :=
  h.agree (F := Lt w.heap.size) (he.agree fun _ h => h) h.ltL h.ltR
abbrev logV (L : Nat) : Value := .pointer (some ⟨L, 0, none⟩)

theorem len_any {w : World} {L R n newest count : Nat} {ring : List Value} (h : IsL w L R n newest count ring) : Calls Try.prog 30 #[logV L] w fun e w' => e = .returned (.int .i64 count) ∧ w = w' := by
  obtain ⟨_, -, -, -, -, h2⟩ := h.c3
  clear h
  go_enter Try.func30, Try.ntmps30
  go_wp2
  go_ret
  exact ⟨rfl, rfl⟩
theorem newest_any {w : World} {L R n newest count : Nat} {ring : List Value} (h : IsL w L R n newest count ring) : Calls Try.prog 32 #[logV L] w fun e w' => e = .returned (.tuple #[.int .u64 (if count = 0 then 0 else newest : Nat), .bool (decide (0 < count))]) ∧ w = w' := by
  obtain ⟨_, -, -, -, h1, -⟩ := h.c3
  have hc := len_any h
  clear h
  by_cases h0 : count = 0
  · subst h0
    go_enter Try.func32, Try.ntmps32
    go_wp2_with fail
    refine hc.mono ?_
    rintro e w' ⟨rfl, rfl⟩
    go_wp2_with fail
    go_ret2
    exact ⟨rfl, rfl⟩
  · have hb : ((count : Int) == 0) = false := beq_eq_false_iff_ne.2 (by omega)
    rw [if_neg h0, decide_eq_true (by omega : 0 < count)]
    go_enter Try.func32, Try.ntmps32
    go_wp2_with fail
    refine hc.mono ?_
    rintro e w' ⟨rfl, rfl⟩
    go_wp2_with fail
    go_ret2
    exact ⟨rfl, rfl⟩
theorem place_log {w : World} {L R n newest count : Nat} {ring : List Value} (h : IsL w L R n newest count ring) (v : Nat) (hv : v < 18446744073709551616) : Calls Try.prog 90 #[logV L, .int .u64 v] w fun e w' => e = .returned (.int .i64 (v % n : Nat)) ∧ w = w' := by
  obtain ⟨cp, hcp, hcm, h0, -, -⟩ := h.c3
  have hp := h.pos
  have hs := h.small
  clear h
  have hm : v % n < n := Nat.mod_lt _ hp
  have hw1 : IntKind.u64.wrap (n : Int) = (n : Int) := by rw [IntKind.wrap_u64]; omega
  have hnz : ¬ (n : Int) = 0 := by omega
  go_enter Try.func90, Try.ntmps90
  go_wp2
  go_ret
  exact ⟨by rw [Int.natCast_emod]; rfl, rfl⟩

theorem made_ptr (n : Nat) : ∀ x ∈ (madeCells #[.pointer none] n).toList, x = .pointer none := by
  intro x hx
  simp only [madeCells, Array.toList_map, List.mem_map] at hx
  obtain ⟨i, -, rfl⟩ := hx
  simp [Nat.mod_one]
/-- What New hands back. -/
def NewPost (q : Int) (w : World) (e : Ending) (w' : World) : Prop :=
  (¬ (1 ≤ q ∧ q ≤ 1024) ∧ e = .returned (.tuple #[.pointer none, .int .i64 2]) ∧ w = w') ∨
  ((1 ≤ q ∧ q ≤ 1024) ∧ ∃ L R ring, e = .returned (.tuple #[logV L, .int .i64 0]) ∧ IsL w' L R q.toNat 0 0 ring ∧ w.heap.size ≤ L ∧ w.heap.size ≤ R ∧ Ext w w')

set_option maxRecDepth 100000 in
set_option maxHeartbeats 400000 in
theorem new_any (w : World) (q : Int) : Calls Try.prog 27 #[.int .i64 q] w (NewPost q w) := by
  obtain ⟨i0, hi, hz0, hz1, hz2⟩ := info_parts Try.infoTree
  by_cases h1 : q < 1
  · go_enter Try.func27, Try.ntmps27
    go_wp2_with fail
    go_ret2
    exact .inl ⟨by omega, rfl, rfl⟩
  · by_cases h2 : 1024 < q
    · have hd : decide (1024 < q) = true := by simpa using h2
      have h1' : decide (q < 1) = false := by simpa using h1
      go_enter Try.func27, Try.ntmps27
      go_wp2_with fail
      go_ret2
      exact .inl ⟨by omega, rfl, rfl⟩
    · have h1' : decide (q < 1) = false := by simpa using h1
      have hd : decide (1024 < q) = false := by simpa using h2
      obtain ⟨n, rfl⟩ : ∃ n : Nat, q = n := ⟨q.toNat, by omega⟩
      have hmk := fun W => run_make_rowN (P := Try.prog) 31 30 i0 _ Try.underlying31 hi hz0 .i64 .i64 n n (Nat.le_refl _) (by rw [hz2]; omega) (by omega) W
      go_enter Try.func27, Try.ntmps27
      go_wp2_with fail
      go_ret2
      have hA : Blk ((w.alloc (.cells (madeCells #[.pointer none] n) 30)).alloc (.cells #[.slice (some ⟨w.heap.size, 0, none⟩) n n, .int .u64 0, .int .i64 0] 71)) w.heap.size 30 (madeCells #[.pointer none] n) := (Blk.new w 30 (madeCells #[.pointer none] n)).alloc _
      have hB : Blk ((w.alloc (.cells (madeCells #[.pointer none] n) 30)).alloc (.cells #[.slice (some ⟨w.heap.size, 0, none⟩) n n, .int .u64 0, .int .i64 0] 71)) (w.heap.size + 1) 71 #[.slice (some ⟨w.heap.size, 0, none⟩) n n, .int .u64 0, .int .i64 0] := by
        have := Blk.new (w.alloc (.cells (madeCells #[.pointer none] n) 30)) 71 #[.slice (some ⟨w.heap.size, 0, none⟩) n n, .int .u64 0, .int .i64 0]
        rwa [World.size_alloc] at this
      refine .inr ⟨by omega, w.heap.size + 1, w.heap.size, (madeCells #[.pointer none] n).toList, rfl, ⟨⟨n, [], Nat.le_refl _, by unfold maxLen; omega, hB, by simpa using hA⟩, by rw [Array.length_toList, size_madeCells]; omega, by omega, by omega, by omega, by omega, by omega, by omega, fun x hx => ⟨none, made_ptr n x hx⟩⟩, by omega, by omega, ((Ext.refl w).alloc _ _).alloc _ _⟩

/-- What Put answers. -/
def putCode (newest count v : Nat) : Nat := if 4611686018427387903 < v then 7 else if 0 < count ∧ v ≤ newest then 15 else if 0 < count ∧ newest + 1 < v then 14 else 0
theorem Ext.set2 {a w : World} (h : Ext a w) {b : Nat} (hb : a.heap.size ≤ b) (i : Nat) (u : Value) : Ext a (w.setCell ⟨b, i, none⟩ u) := h.setCell (p := ⟨b, i, none⟩) hb u

set_option maxRecDepth 100000 in
set_option maxHeartbeats 800000 in
theorem put_bad {w : World} {L R n newest count : Nat} {ring : List Value} (h : IsL w L R n newest count ring) (v : Nat) (hv : v < 18446744073709551616) (t : Value) (hc : putCode newest count v ≠ 0) :
    Calls Try.prog 29 #[logV L, .int .u64 v, .agg #[t]] w fun e w' => e = .returned (.int .i64 (putCode newest count v)) ∧ Ext w w' := by
  obtain ⟨cp, hcp, hcm, c0, c1, c2⟩ := h.c3
  have hL := h.ltL
  have hp := h.pos
  have hnum := h.num
  have hnz : ((n : Int) == 0) = false := beq_eq_false_iff_ne.2 (by omega)
  clear h
  unfold putCode at hc ⊢
  by_cases h1 : 4611686018427387903 < v
  · rw [if_pos h1] at hc ⊢
    have hd : (4611686018427387903 : Int) < (v : Int) := by omega
    go_enter Try.func29, Try.ntmps29
    go_wp2_with fail
    go_ret
    exact ⟨rfl, (Ext.refl w).alloc _ _⟩
  · rw [if_neg h1] at hc ⊢
    have hd : ¬ (4611686018427387903 : Int) < (v : Int) := by omega
    have hd' : decide ((4611686018427387903 : Int) < (v : Int)) = false := decide_eq_false hd
    by_cases h2 : 0 < count ∧ v ≤ newest
    · rw [if_pos h2] at hc ⊢
      have e1 : decide ((0 : Int) < (count : Int)) = true := by simp; omega
      have e2 : decide ((v : Int) ≤ (newest : Int)) = true := by simp; omega
      go_enter Try.func29, Try.ntmps29
      go_wp2_with fail
      go_ret
      exact ⟨rfl, (Ext.refl w).alloc _ _⟩
    · rw [if_neg h2] at hc ⊢
      by_cases h3 : 0 < count ∧ newest + 1 < v
      · rw [if_pos h3] at hc ⊢
        have e1 : decide ((0 : Int) < (count : Int)) = true := by simp; omega
        have e2 : decide ((v : Int) ≤ (newest : Int)) = false := by simp; omega
        have e3 : IntKind.u64.wrap ((newest : Int) + 1) = (newest : Int) + 1 := by rw [IntKind.wrap_u64]; omega
        have e4 : decide ((newest : Int) + 1 < (v : Int)) = true := by simp; omega
        go_enter Try.func29, Try.ntmps29
        go_wp2_with fail
        go_ret
        exact ⟨rfl, (Ext.refl w).alloc _ _⟩
      · rw [if_neg h3] at hc; exact absurd rfl hc

/-- What Put leaves, where it takes the version. -/
def PutL (L R n newest count : Nat) (ring : List Value) (v : Nat) (t : Value) (w : World) (e : Ending) (w' : World) : Prop :=
  e = .returned (.int .i64 0) ∧ IsL w' L R n v (min (count + 1) n) (ring.set (v % n) t) ∧ Agree (fun b => b < w.heap.size ∧ b ≠ L ∧ b ≠ R) w w' ∧ w.heap.size ≤ w'.heap.size ∧ ∀ a : World, Ext a w → a.heap.size ≤ L → a.heap.size ≤ R → Ext a w'

theorem put_end {w W1 : World} {L R n newest count : Nat} {ring : List Value} (h : IsL w L R n newest count ring) (hx : Ext w W1) {v p : Nat} {q : Value} (hpm : v % n = p) (hv : v ≤ 4611686018427387903) (hcv : 0 < count → newest < v ∧ v ≤ newest + 1) (hq : ∃ a, q = .pointer a) {m : Int} (hm : m = ((min (count + 1) n : Nat) : Int)) :
    PutL L R n newest count ring v q w (.returned (.int .i64 0)) (((W1.setCell ⟨R, p, none⟩ q).setCell ⟨L, 1, none⟩ (.int .u64 v)).setCell ⟨L, 2, none⟩ (.int .i64 m)).drew.drew := by
  subst hm hpm
  have hL := h.ext hx
  have hsz : (((W1.setCell ⟨R, v % n, none⟩ q).setCell ⟨L, 1, none⟩ (.int .u64 v)).setCell ⟨L, 2, none⟩ (.int .i64 ((min (count + 1) n : Nat) : Int))).drew.drew.heap.size = W1.heap.size := by
    show (((W1.setCell _ _).setCell _ _).setCell _ _).heap.size = _
    simp
  refine ⟨rfl, ⟨?_, by rw [List.length_set]; exact h.len, h.ne, h.pos, h.small, Nat.min_le_right _ _, hv, ?_, fun x hx => (List.mem_or_eq_of_mem_set hx).elim (h.ptr x) fun e => e ▸ hq⟩, ?_, by rw [hsz]; exact hx.size, fun a ha h1 h2 => ((((ha.trans hx).set2 h2 _ _).set2 h1 _ _).set2 h1 _ _).drew.drew⟩
  · obtain ⟨c, ex, a1, a2, a3, a4⟩ := hL.mem
    refine ⟨c, ex, a1, a2, ((a3.far (p := ⟨R, v % n, none⟩) h.ne q).set_ 1 _).set_ 2 _, ?_⟩
    have e : (ring.set (v % n) q ++ ex).toArray = (ring ++ ex).toArray.setIfInBounds (v % n) q := by
      have hlt : v % n < ring.length := by rw [h.len]; exact Nat.mod_lt _ h.pos
      simp [List.set_append_left _ _ hlt]
    rw [e]
    exact ((a4.set_ (v % n) q).far (p := ⟨L, 1, none⟩) (fun e => h.ne e.symm) (.int .u64 v)).far (p := ⟨L, 2, none⟩) (fun e => h.ne e.symm) _
  · rcases Nat.eq_zero_or_pos count with h0 | h0
    · rw [h0]; have := Nat.min_le_left (0 + 1) n; omega
    · have := hcv h0; have := h.cnt; have := Nat.min_le_left (count + 1) n; omega
  · exact (((hx.agree (fun _ hb => hb.1)).trans (Agree.setCell W1 ⟨R, v % n, none⟩ q (fun hb => hb.2.2 rfl))).trans (Agree.setCell _ ⟨L, 1, none⟩ _ (fun hb => hb.2.1 rfl))).trans (Agree.setCell _ ⟨L, 2, none⟩ _ (fun hb => hb.2.1 rfl))

set_option maxRecDepth 100000 in
set_option maxHeartbeats 800000 in
theorem put_ok {w : World} {L R n newest count : Nat} {ring : List Value} (h : IsL w L R n newest count ring) (v : Nat) (hv : v < 18446744073709551616) (q : Option Addr) (hc : putCode newest count v = 0) :
    Calls Try.prog 29 #[logV L, .int .u64 v, .agg #[.pointer q]] w (PutL L R n newest count ring v (.pointer q) w) := by
  obtain ⟨cp, hcp, hcm, c0, c1, c2⟩ := h.c3
  have hL := h.ltL
  have hR := h.ltR
  have hp := h.pos
  have hnum := h.num
  have hnz : ((n : Int) == 0) = false := beq_eq_false_iff_ne.2 (by omega)
  have hvM : v ≤ 4611686018427387903 := by
    unfold putCode at hc; split at hc
    · cases hc
    · omega
  have hd : ¬ (4611686018427387903 : Int) < (v : Int) := by omega
  have hd' : decide ((4611686018427387903 : Int) < (v : Int)) = false := decide_eq_false hd
  have hcv : 0 < count → newest < v ∧ v ≤ newest + 1 := fun h0 => by
    unfold putCode at hc
    rw [if_neg (by omega)] at hc
    split at hc
    · cases hc
    · split at hc
      · cases hc
      · omega
  obtain ⟨p, hpm⟩ : ∃ p, v % n = p := ⟨_, rfl⟩
  have hpn : p < n := by rw [← hpm]; exact Nat.mod_lt _ hp
  have hpl : ∀ W, IsL W L R n newest count ring → Calls Try.prog 90 #[logV L, .int .u64 v] W fun e w' => e = .returned (.int .i64 p) ∧ W = w' := fun W hW => by
    have := place_log hW v hv
    rwa [hpm] at this
  have hpn' : (p : Int) < (n : Int) := by omega
  have hrc : ∃ x, w.cell? ⟨R, p, none⟩ = some x := ⟨_, h.at_ (List.getElem?_eq_getElem (by rw [h.len]; exact hpn))⟩
  obtain ⟨x, hrc⟩ := hrc
  have fR : ∀ o, w.frozen? ⟨R, o, none⟩ = false := fun o => h.fzR o
  have fL : ∀ o, w.frozen? ⟨L, o, none⟩ = false := fun o => h.fzL o
  have hne1 : ¬ L = R := h.ne
  have hne2 : ¬ R = L := fun e => h.ne e.symm
  have hsm := h.small
  have hfew := h.few
  have HPL := Lib.hid hpl
  have HH := Lib.hid h
  have HPM := Lib.hid hpm
  have HCV := Lib.hid hcv
  have hw2 : IntKind.i64.wrap ((count : Int) + 1) = (count : Int) + 1 := by rw [IntKind.wrap_i64]; omega
  clear h hpl hpm hcv hc
  by_cases h0 : count = 0
  · subst h0
    go_enter Try.func29, Try.ntmps29
    go_wp2_with fail
    have hx1 : Ext w (w.alloc (.cells #[.pointer q] 30)) := (Ext.refl w).alloc _ _
    have hb1 := Blk.new w 30 #[.pointer q]
    generalize w.alloc (.cells #[.pointer q] 30) = W1 at *
    have hc0 := (hx1.cell (o := 0) hL).trans c0
    have hc1 := (hx1.cell (o := 1) hL).trans c1
    have hc2 := (hx1.cell (o := 2) hL).trans c2
    have hcr := (hx1.cell (o := p) hR).trans hrc
    have gR : ∀ o, W1.frozen? ⟨R, o, none⟩ = false := fun o => (hx1.frozen hR).trans (fR o)
    have gL : ∀ o, W1.frozen? ⟨L, o, none⟩ = false := fun o => (hx1.frozen hL).trans (fL o)
    have hN1 : ¬ R = w.heap.size := by omega
    have hN2 : ¬ L = w.heap.size := by omega
    have hN3 := hb1.lt
    have hcb : W1.cell? ⟨w.heap.size, 0, none⟩ = some (.pointer q) := hb1.cell 0
    have HX1 := Lib.hid hx1
    have HL1 := Lib.hid (HH.out.ext hx1)
    clear hx1 hb1 c0 c1 c2 hrc fR fL
    go_region_held3 (fun w' => w'.cell? ⟨L, 0, none⟩ = some (.slice (some ⟨R, 0, none⟩) n cp) ∧ w'.cell? ⟨w.heap.size, 0, none⟩ = some (.pointer q)) (go_keep)
      ((go_at_call 90; refine (HPL.out _ (HL1.out.ext (Ext.refl W1).drew)).mono ?_; rintro e w1 ⟨rfl, rfl⟩))
    go_wp2_with fail
    go_region
    go_wp2_with fail
    go_ret
    exact put_end HH.out HX1.out HPM.out hvM HCV.out ⟨q, rfl⟩ (by have := Nat.min_eq_left (show 0 + 1 ≤ n by omega); rw [this]; rfl)
  · have e1 : decide ((0 : Int) < (count : Int)) = true := by simp; omega
    have e5 : (newest : Int) < (v : Int) := by have := HCV.out (by omega); omega
    have e2 : decide ((v : Int) ≤ (newest : Int)) = false := by simp; omega
    have e3 : IntKind.u64.wrap ((newest : Int) + 1) = (newest : Int) + 1 := by rw [IntKind.wrap_u64]; omega
    have e6 : (v : Int) ≤ (newest : Int) + 1 := by have := HCV.out (by omega); omega
    have e4 : decide ((newest : Int) + 1 < (v : Int)) = false := by have := HCV.out (by omega); simp; omega
    go_enter Try.func29, Try.ntmps29
    go_wp2_with fail
    have hx1 : Ext w (w.alloc (.cells #[.pointer q] 30)) := (Ext.refl w).alloc _ _
    have hb1 := Blk.new w 30 #[.pointer q]
    generalize w.alloc (.cells #[.pointer q] 30) = W1 at *
    have hc0 := (hx1.cell (o := 0) hL).trans c0
    have hc1 := (hx1.cell (o := 1) hL).trans c1
    have hc2 := (hx1.cell (o := 2) hL).trans c2
    have hcr := (hx1.cell (o := p) hR).trans hrc
    have gR : ∀ o, W1.frozen? ⟨R, o, none⟩ = false := fun o => (hx1.frozen hR).trans (fR o)
    have gL : ∀ o, W1.frozen? ⟨L, o, none⟩ = false := fun o => (hx1.frozen hL).trans (fL o)
    have hN1 : ¬ R = w.heap.size := by omega
    have hN2 : ¬ L = w.heap.size := by omega
    have hN3 := hb1.lt
    have hcb : W1.cell? ⟨w.heap.size, 0, none⟩ = some (.pointer q) := hb1.cell 0
    have HX1 := Lib.hid hx1
    have HL1 := Lib.hid (HH.out.ext hx1)
    clear hx1 hb1 c0 c1 c2 hrc fR fL
    go_region_held3 (fun w' => w'.cell? ⟨L, 0, none⟩ = some (.slice (some ⟨R, 0, none⟩) n cp) ∧ w'.cell? ⟨w.heap.size, 0, none⟩ = some (.pointer q)) (go_keep)
      ((go_at_call 90; refine (HPL.out _ (HL1.out.ext (Ext.refl W1).drew)).mono ?_; rintro e w1 ⟨rfl, rfl⟩))
    go_wp2_with fail
    go_region
    go_wp2_with fail
    all_goals
      go_ret
      exact put_end HH.out HX1.out HPM.out hvM HCV.out ⟨q, rfl⟩ (by rw [Nat.min_def]; split <;> omega)

/-- The least version that is kept. -/
def oldV (newest count : Nat) : Nat := if count = 0 then 0 else newest - (count - 1)
theorem oldest_any {w : World} {L R n newest count : Nat} {ring : List Value} (h : IsL w L R n newest count ring) : Calls Try.prog 43 #[logV L] w fun e w' => e = .returned (.tuple #[.int .u64 (oldV newest count), .bool (decide (0 < count))]) ∧ ∃ q, w' = w.drewN q := by
  obtain ⟨_, -, -, -, h1, h2⟩ := h.c3
  have hc := len_any h
  have hcn := h.cnt
  have hnum := h.num
  have hsm := h.small
  have hfew := h.few
  clear h
  by_cases h0 : count = 0
  · subst h0
    go_enter Try.func43, Try.ntmps43
    go_wp2_with fail
    refine hc.mono ?_
    rintro e w' ⟨rfl, rfl⟩
    go_wp2_with fail
    go_ret2
    exact ⟨rfl, 0, rfl⟩
  · have hb : ((count : Int) == 0) = false := beq_eq_false_iff_ne.2 (by omega)
    have e1 : IntKind.i64.wrap ((count : Int) - 1) = (count : Int) - 1 := by rw [IntKind.wrap_i64]; omega
    have e2 : IntKind.u64.wrap ((count : Int) - 1) = (count : Int) - 1 := by rw [IntKind.wrap_u64]; omega
    have e3 : IntKind.u64.wrap ((newest : Int) - ((count : Int) - 1)) = (newest : Int) - ((count : Int) - 1) := by rw [IntKind.wrap_u64]; omega
    rw [oldV, if_neg h0, decide_eq_true (by omega : 0 < count)]
    go_enter Try.func43, Try.ntmps43
    go_wp2_with fail
    refine hc.mono ?_
    rintro e w' ⟨rfl, rfl⟩
    go_wp2_with fail
    go_quiet (fail)
    go_wp2
    go_ret2
    refine ⟨?_, _, rfl⟩
    rw [show ((newest - (count - 1) : Nat) : Int) = (newest : Int) - ((count : Int) - 1) from by omega]
    rfl

/-- Is a version kept? -/
def keptV (newest count v : Nat) : Prop := 0 < count ∧ oldV newest count ≤ v ∧ v ≤ newest
def AtPost (n newest count : Nat) (ring : List Value) (v : Nat) (w : World) (e : Ending) (w' : World) : Prop :=
  ((¬ keptV newest count v ∧ e = .returned (.tuple #[.agg #[.pointer none], .bool false])) ∨ (keptV newest count v ∧ ∃ x, ring[v % n]? = some x ∧ e = .returned (.tuple #[.agg #[x], .bool true]))) ∧ Ext w w'

set_option maxRecDepth 100000 in
set_option maxHeartbeats 800000 in
theorem at_any {w : World} {L R n newest count : Nat} {ring : List Value} (h : IsL w L R n newest count ring) (v : Nat) (hv : v < 18446744073709551616) : Calls Try.prog 34 #[logV L, .int .u64 v] w (AtPost n newest count ring v w) := by
  have HH := Lib.hid h
  have hL := h.ltL
  have hR := h.ltR
  have hp := h.pos
  obtain ⟨p, hpm⟩ : ∃ p, v % n = p := ⟨_, rfl⟩
  have hpn : p < n := by rw [← hpm]; exact Nat.mod_lt _ hp
  have hpl : ∀ W, IsL W L R n newest count ring → Calls Try.prog 90 #[logV L, .int .u64 v] W fun e w' => e = .returned (.int .i64 p) ∧ W = w' := fun W hW => by
    have := place_log hW v hv
    rwa [hpm] at this
  have hpn' : (p : Int) < (n : Int) := by omega
  obtain ⟨x, hx⟩ : ∃ x, ring[p]? = some x := ⟨_, List.getElem?_eq_getElem (by rw [h.len]; exact hpn)⟩
  have hxr : ring[v % n]? = some x := by rw [hpm]; exact hx
  have HXR := Lib.hid hxr
  obtain ⟨xq, rfl⟩ := h.ptr x (List.mem_of_getElem? hx)
  have HPL := Lib.hid hpl
  have hold : ∀ W, IsL W L R n newest count ring → Calls Try.prog 43 #[logV L] W fun e w' => e = .returned (.tuple #[.int .u64 (oldV newest count), .bool (decide (0 < count))]) ∧ ∃ q, w' = W.drewN q := fun W hW => oldest_any hW
  have HOLD := Lib.hid hold
  clear hpl hold hpm h hxr
  go_enter Try.func34, Try.ntmps34
  go_wp2_with fail
  have hx1 : Ext w (w.alloc (.cells #[.pointer none] 30)) := (Ext.refl w).alloc _ _
  have hb1 := Blk.new w 30 #[.pointer none]
  generalize w.alloc (.cells #[.pointer none] 30) = W1 at *
  refine (HOLD.out W1 (HH.out.ext hx1)).mono ?_
  rintro e w2 ⟨rfl, q, rfl⟩
  have hx2 := hx1.drewN q
  have hb2 : Blk (W1.drewN q) w.heap.size 30 #[.pointer none] := hb1
  generalize W1.drewN q = W2 at *
  have hl2 := HH.out.ext hx2
  obtain ⟨cp, hcp, hcm, c0, c1, c2⟩ := hl2.c3
  have fz := fun o => hb2.frozen o
  have r0 : W2.cell? ⟨w.heap.size, 0, none⟩ = some (.pointer none) := hb2.cell 0
  have hcr : W2.cell? ⟨R, p, none⟩ = some (.pointer xq) := hl2.at_ hx
  have hN1 : ¬ R = w.heap.size := by omega
  have hN2 : ¬ L = w.heap.size := by omega
  have hN4 : ¬ w.heap.size = R := by omega
  have hN5 : ¬ w.heap.size = L := by omega
  have hN3 := hb2.lt
  have hL2 := hl2.ltL
  have hR2 := hl2.ltR
  have HL2 := Lib.hid hl2
  have HX2 := Lib.hid hx2
  clear hx1 hb1 hx2 hb2 hl2 hx
  by_cases h0 : 0 < count
  · rw [decide_eq_true h0]
    have h0' : decide (0 < count) = true := by simpa using h0
    by_cases h1 : v < oldV newest count
    · have e1 : decide ((v : Int) < (oldV newest count : Int)) = true := by simp; omega
      have e1' : (v : Int) < (oldV newest count : Int) := by omega
      go_wp2_with fail
      have q0 : (W2.setCell ⟨w.heap.size, 0, none⟩ (.pointer none)).cell? ⟨w.heap.size, 0, none⟩ = some (.pointer none) := World.cell?_setCell_same W2 _ _ r0
      refine bodyPost_ret (v := .tuple #[.agg #[.pointer none], .bool false]) (by simp [results, Try.results34, go_sem, q0]) rfl ?_
      exact ⟨.inl ⟨fun hk => by have := hk.2.1; omega, rfl⟩, HX2.out.set2 (Nat.le_refl _) _ _⟩
    · by_cases h2 : newest < v
      · have e1 : decide ((v : Int) < (oldV newest count : Int)) = false := by simp; omega
        have e1' : ¬ (v : Int) < (oldV newest count : Int) := by omega
        have e2 : decide ((newest : Int) < (v : Int)) = true := by simp; omega
        have e2' : (newest : Int) < (v : Int) := by omega
        go_wp2_with fail
        have q0 : (W2.setCell ⟨w.heap.size, 0, none⟩ (.pointer none)).cell? ⟨w.heap.size, 0, none⟩ = some (.pointer none) := World.cell?_setCell_same W2 _ _ r0
        refine bodyPost_ret (v := .tuple #[.agg #[.pointer none], .bool false]) (by simp [results, Try.results34, go_sem, q0]) rfl ?_
        exact ⟨.inl ⟨fun hk => by have := hk.2.2; omega, rfl⟩, HX2.out.set2 (Nat.le_refl _) _ _⟩
      · have e1 : decide ((v : Int) < (oldV newest count : Int)) = false := by simp; omega
        have e1' : ¬ (v : Int) < (oldV newest count : Int) := by omega
        have e2 : decide ((newest : Int) < (v : Int)) = false := by simp; omega
        have e2' : ¬ (newest : Int) < (v : Int) := by omega
        go_wp2_with fail
        go_region_held3 (fun w' => w'.cell? ⟨L, 0, none⟩ = some (.slice (some ⟨R, 0, none⟩) n cp) ∧ w'.cell? ⟨R, p, none⟩ = some (.pointer xq)) (go_keep)
          ((go_at_call 90; refine (HPL.out _ (HL2.out.ext (Ext.refl W2).drew)).mono ?_; rintro e w1 ⟨rfl, rfl⟩))
        go_wp2_with fail
        have q0 : ((W2.setCell ⟨w.heap.size, 0, none⟩ (.pointer xq)).drew).cell? ⟨w.heap.size, 0, none⟩ = some (.pointer xq) := World.cell?_setCell_same W2 _ _ r0
        refine bodyPost_ret (v := .tuple #[.agg #[.pointer xq], .bool true]) (by simp [results, Try.results34, go_sem, World.cell?_setCell_same W2 _ _ r0]) rfl ?_
        exact ⟨.inr ⟨⟨h0, by omega, by omega⟩, _, HXR.out, rfl⟩, (HX2.out.set2 (Nat.le_refl _) _ _).drew⟩
  · rw [decide_eq_false h0]
    have h0' : decide (0 < count) = false := by simpa using h0
    go_wp2_with fail
    have q0 : (W2.setCell ⟨w.heap.size, 0, none⟩ (.pointer none)).cell? ⟨w.heap.size, 0, none⟩ = some (.pointer none) := World.cell?_setCell_same W2 _ _ r0
    refine bodyPost_ret (v := .tuple #[.agg #[.pointer none], .bool false]) (by simp [results, Try.results34, go_sem, q0]) rfl ?_
    exact ⟨.inl ⟨fun hk => by exact absurd hk.1 h0, rfl⟩, HX2.out.set2 (Nat.le_refl _) _ _⟩
end Go.Proofs.Ytpapoalgocmlaaa
