/- What the theorem needs of the texts Since, Ref19, Put19, Asks, Range, Mc, Mg, RangeC, RoundD, RoundE, Md, Me: no condition of its own. -/
import Derived.Deep.RegionLaw
import Derived.Lib.SliceRun
import Derived.Laws.IdiomStrings
import Derived.WalkArith
import Derived.RangeFuncNested
import Derived.RangeFuncBound
import Derived.RangeFuncCalls
import Derived.RangeFuncLeaves
import Derived.OwnWalkIn
import Derived.OrdersIn
import Derived.Deep.RegionHeld3
import Derived.Test.YtpapoalgocmlaaaPpa
import Derived.Test.YtpapoalgocmlaaaPpb
namespace Go.Proofs.Ytpapoalgocmlaaa
open Go.RowKit Go.Shelf
set_option linter.unusedVariables false
set_option linter.unusedSimpArgs false
attribute [local go_sem] Oper.semAt_some
def sinceF (x : Option Addr) (l : List (Nat × Option Addr)) : Nat × Bool := l.foldl (fun s e => if e.2 = x then (if s.2 then s else (e.1, true)) else (s.1, false)) (0, false)
theorem sinceF_snoc (x : Option Addr) (l : List (Nat × Option Addr)) (e : Nat × Option Addr) : sinceF x (l ++ [e]) = if e.2 = x then (if (sinceF x l).2 then sinceF x l else (e.1, true)) else ((sinceF x l).1, false) := by
  unfold sinceF
  rw [List.foldl_append]
  rfl
def tl (o : Nat) (r : Nat → Option Addr) (j : Nat) : List (Nat × Option Addr) := (List.range j).map fun i => (o + i, r i)
theorem tl_succ (o : Nat) (r : Nat → Option Addr) (j : Nat) : tl o r (j + 1) = tl o r j ++ [(o + j, r j)] := by simp [tl, List.range_succ]
theorem sinceF_run (o : Nat) (r : Nat → Option Addr) (x : Option Addr) : ∀ j, (sinceF x (tl o r (j + 1))).2 = decide (r j = x) ∧ (r j = x → ∃ s, s ≤ j ∧ (sinceF x (tl o r (j + 1))).1 = o + s ∧ (∀ i, s ≤ i → i ≤ j → r i = x) ∧ (s = 0 ∨ r (s - 1) ≠ x))
  | 0 => by
    rw [tl_succ, sinceF_snoc]
    by_cases h : r 0 = x
    · refine ⟨by simp [h, sinceF, tl], fun _ => ⟨0, Nat.le_refl _, by simp [h, sinceF, tl], fun i _ h2 => ?_, .inl rfl⟩⟩
      obtain rfl : i = 0 := by omega
      exact h
    · exact ⟨by simp [h], fun h' => absurd h' h⟩
  | j + 1 => by
    obtain ⟨h1, h2⟩ := sinceF_run o r x j
    rw [tl_succ, sinceF_snoc]
    by_cases h : r (j + 1) = x
    · by_cases hj : r j = x
      · obtain ⟨s, hs, e1, e2, e3⟩ := h2 hj
        rw [decide_eq_true hj] at h1
        refine ⟨by simp [h, h1], fun _ => ⟨s, by omega, by simp [h, h1, e1], fun i h3 h4 => ?_, e3⟩⟩
        rcases Nat.lt_or_ge i (j + 1) with h5 | h5
        · exact e2 i h3 (by omega)
        · obtain rfl : i = j + 1 := by omega
          exact h
      · rw [decide_eq_false hj] at h1
        refine ⟨by simp [h, h1], fun _ => ⟨j + 1, Nat.le_refl _, by simp [h, h1], fun i h3 h4 => ?_, .inr (by simpa using hj)⟩⟩
        obtain rfl : i = j + 1 := by omega
        exact h
    · exact ⟨by simp [h], fun h' => absurd h' h⟩
theorem Ext.others {w w' : World} (h : Ext w w') : KeepsOthers w w' := ⟨h.size, fun k o hk ho => (h.heap (Array.getElem?_eq_some_iff.1 hk).1).trans hk⟩
theorem KB.set {n₀ B : Nat} {w W : World} (h : KB n₀ B w W) {a : Addr} (ha : n₀ ≤ a.block) (hb : B ≠ a.block) (u : Value) : KB n₀ B w (W.setCell a u) := ⟨h.1.setCell ha u, (Below.heap_setCell W a u B hb).trans h.2⟩
theorem map_snoc {α : Type} {P : α → Prop} (pre : List { x : α // P x }) (p : { x : α // P x }) : (pre ++ [p]).map Subtype.val = pre.map Subtype.val ++ [p.1] := by simp
def SI (n₀ : Nat) (Wl : World) (x : Option Addr) (l : List (Nat × Option Addr)) (W : World) : Prop :=
  (W.cell? ⟨n₀, 0, none⟩ = some (.int .u64 (sinceF x l).1) ∧ W.frozen? ⟨n₀, 0, none⟩ = false ∧ W.cell? ⟨n₀ + 1, 0, none⟩ = some (.bool (sinceF x l).2) ∧ W.frozen? ⟨n₀ + 1, 0, none⟩ = false) ∧ Below n₀ Wl W
theorem SI.own {n₀ B : Nat} {Wl : World} {x : Option Addr} (hn : n₀ ≤ Wl.heap.size) (hB : n₀ ≤ B) : OwnFrom B (SI n₀ Wl x) :=
  fun s A C row hs hg hr => ⟨⟨cell_kept hs.1.1 hg (fun r e => (hr r e).2), (frozen_kept hs.1.1 hg (fun r e => (hr r e).2)).trans hs.1.2.1, cell_kept hs.1.2.2.1 hg (fun r e => (hr r e).2), (frozen_kept hs.1.2.2.1 hg (fun r e => (hr r e).2)).trans hs.1.2.2.2⟩,
    ownFrom_below (β := Unit) hn hB () A C row hs.2 hg hr⟩
theorem SI.ext {n₀ : Nat} {Wl W W' : World} {x : Option Addr} {l : List (Nat × Option Addr)} (h : SI n₀ Wl x l W) (he : Ext W W') (hl : n₀ + 1 < W.heap.size) : SI n₀ Wl x l W' :=
  ⟨⟨(he.cell (by omega)).trans h.1.1, (he.frozen (by omega)).trans h.1.2.1, (he.cell hl).trans h.1.2.2.1, (he.frozen hl).trans h.1.2.2.2⟩, h.2.trans (he.below.mono (by omega))⟩
theorem SI.on {n₀ : Nat} {Wl W : World} {x : Option Addr} {l : List (Nat × Option Addr)} (h : SI n₀ Wl x l W) {e : Nat × Option Addr} (he : e.2 = x) (hg : (sinceF x l).2 = true) : SI n₀ Wl x (l ++ [e]) W := by
  have : sinceF x (l ++ [e]) = sinceF x l := by rw [sinceF_snoc, if_pos he, if_pos hg]
  unfold SI
  rw [this]
  exact h
theorem SI.stop {n₀ : Nat} {Wl W : World} {x : Option Addr} {l : List (Nat × Option Addr)} (h : SI n₀ Wl x l W) {e : Nat × Option Addr} (he : e.2 ≠ x) : SI n₀ Wl x (l ++ [e]) (W.setCell ⟨n₀ + 1, 0, none⟩ (.bool false)) := by
  have : sinceF x (l ++ [e]) = ((sinceF x l).1, false) := by rw [sinceF_snoc, if_neg he]
  unfold SI
  rw [this]
  have hne : (⟨n₀ + 1, 0, none⟩ : Addr) ≠ ⟨n₀, 0, none⟩ := by simp
  exact ⟨⟨(World.cell?_setCell_other W ⟨n₀ + 1, 0, none⟩ ⟨n₀, 0, none⟩ _ hne).trans h.1.1, by rw [World.frozen?_setCell]; exact h.1.2.1, World.cell?_setCell_same W ⟨n₀ + 1, 0, none⟩ _ h.1.2.2.1, by rw [World.frozen?_setCell]; exact h.1.2.2.2⟩,
    h.2.setCell (p := ⟨n₀ + 1, 0, none⟩) (Nat.le_succ _) _⟩
theorem SI.new {n₀ : Nat} {Wl W : World} {x : Option Addr} {l : List (Nat × Option Addr)} (h : SI n₀ Wl x l W) {e : Nat × Option Addr} (he : e.2 = x) (hg : (sinceF x l).2 = false) :
    SI n₀ Wl x (l ++ [e]) ((W.setCell ⟨n₀, 0, none⟩ (.int .u64 e.1)).setCell ⟨n₀ + 1, 0, none⟩ (.bool true)) := by
  have : sinceF x (l ++ [e]) = (e.1, true) := by rw [sinceF_snoc, if_pos he, if_neg (by rw [hg]; decide)]
  unfold SI
  rw [this]
  have hne : (⟨n₀ + 1, 0, none⟩ : Addr) ≠ ⟨n₀, 0, none⟩ := by simp
  have hne' : (⟨n₀, 0, none⟩ : Addr) ≠ ⟨n₀ + 1, 0, none⟩ := by simp
  have c1 : (W.setCell ⟨n₀, 0, none⟩ (.int .u64 e.1)).cell? ⟨n₀ + 1, 0, none⟩ = some (.bool (sinceF x l).2) := (World.cell?_setCell_other W ⟨n₀, 0, none⟩ ⟨n₀ + 1, 0, none⟩ _ hne').trans h.1.2.2.1
  exact ⟨⟨(World.cell?_setCell_other _ ⟨n₀ + 1, 0, none⟩ ⟨n₀, 0, none⟩ _ hne).trans (World.cell?_setCell_same W ⟨n₀, 0, none⟩ _ h.1.1), by rw [World.frozen?_setCell, World.frozen?_setCell]; exact h.1.2.1, World.cell?_setCell_same _ ⟨n₀ + 1, 0, none⟩ _ c1, by rw [World.frozen?_setCell, World.frozen?_setCell]; exact h.1.2.2.2⟩,
    (h.2.setCell (p := ⟨n₀, 0, none⟩) (Nat.le_refl _) _).setCell (p := ⟨n₀ + 1, 0, none⟩) (Nat.le_succ _) _⟩
def RunAt {α : Type} (r : Nat → α) (g k s : Nat) : Prop := g ≤ s ∧ s ≤ k ∧ (∀ i, s ≤ i → i ≤ k → r i = r k) ∧ (s = g ∨ r (s - 1) ≠ r k)
theorem RunAt.unique {α : Type} {r : Nat → α} {g k s t : Nat} (h : RunAt r g k s) (h' : RunAt r g k t) : s = t := by
  obtain ⟨a1, a2, a3, a4⟩ := h
  obtain ⟨b1, b2, b3, b4⟩ := h'
  rcases Nat.lt_trichotomy s t with hl | rfl | hl
  · rcases b4 with rfl | b4
    · omega
    · exact absurd (a3 (t - 1) (by omega) (by omega)) b4
  · rfl
  · rcases a4 with rfl | a4
    · omega
    · exact absurd (b3 (s - 1) (by omega) (by omega)) a4
def SincePost (keep f : Nat) (ps : List (Option Addr)) (v : Nat) (w : World) (e : Ending) (w' : World) : Prop :=
  ((¬ (f ≤ v ∧ v - f < ps.length ∧ ps.length ≤ v - f + keep) ∧ e = .returned (.tuple #[.int .u64 0, .bool false])) ∨
    ((f ≤ v ∧ v - f < ps.length ∧ ps.length ≤ v - f + keep) ∧ ∃ s, e = .returned (.tuple #[.int .u64 (f + s : Nat), .bool true]) ∧ RunAt (fun i => ps.getD i none) (gone keep ps) (v - f) s)) ∧ Below w.heap.size w w'
set_option maxRecDepth 100000 in
set_option maxHeartbeats 4000000 in
theorem since_log {w : World} {L R keep f : Nat} {ps : List (Option Addr)} (h : LogAt w L R keep f (ps.map .pointer)) (hle : ∀ q ∈ ps, Leads w q) (v : Nat) (hv : v < 18446744073709551616) :
    Calls Try.prog 44 #[logV L, .int .u64 v] w (SincePost keep f ps v w) := by
  refine (callsIn_wide (n := 6)).1 ?_
  refine callsIn_of_wp_marks Try.func44 rfl trivial ?_ rfl
  simp only [Try.ntmps44, List.size_toArray, List.length_cons, List.length_nil, Nat.reduceAdd, Nat.reduceSub, Array.replicate_succ, Array.replicate_zero, List.push_toArray, List.append_toArray, List.nil_append, List.cons_append]
  gi_wp2_with fail
  have hx0 : Ext w (w.alloc (.cells #[.int .u64 v] 22)) := (Ext.refl w).alloc _ _
  have HV0 := Lib.hid (Blk.new w 22 #[.int .u64 v])
  have HL0 := Lib.hid (h.ext hx0)
  have HLE := Lib.hid hle
  have hLs := h.lt
  generalize w.alloc (.cells #[.int .u64 v] 22) = w0 at *
  have HX0 := Lib.hid hx0
  clear h hle hx0
  refine ⟨trivial, ?_⟩
  refine (callsIn_wide.2 (at_log HL0.out v hv)).mono ?_
  rintro e w1 ⟨⟨hk, rfl⟩ | ⟨x, hx, rfl⟩, hx1⟩
  · have HX1 := Lib.hid (HX0.out.trans hx1)
    rw [List.length_map] at hk
    have HKN := Lib.hid hk
    clear hx1 hk
    gi_wp2_with fail
    refine ⟨_, results_tmp2 rfl _ _ _, .inl ⟨HKN.out, rfl⟩, (HX1.out.alloc _ _).below⟩
  have HV1 := Lib.hid (HV0.out.ext hx1)
  have HL1 := Lib.hid (HL0.out.ext hx1)
  have HX1 := Lib.hid (HX0.out.trans hx1)
  have HXX := Lib.hid hx
  clear hx hx1
  gi_wp2_with fail
  have hxq : Leads w x := by
    have h4 := HXX.out.2.2.2
    rw [List.getElem?_map] at h4
    cases hg : ps[v - f]? with
    | none => rw [hg] at h4; cases h4
    | some q => rw [hg] at h4; simp at h4; subst h4; exact HLE.out _ (List.mem_of_getElem? hg)
  have hx4 : Ext w1 (((w1.alloc (.cells #[.pointer x] 30)).alloc (.cells #[.int .u64 0] 22)).alloc (.cells #[.bool false] 4)) := (((Ext.refl w1).alloc _ _).alloc _ _).alloc _ _
  obtain ⟨b1, b2, b3, hsz4⟩ : Blk (((w1.alloc (.cells #[.pointer x] 30)).alloc (.cells #[.int .u64 0] 22)).alloc (.cells #[.bool false] 4)) w1.heap.size 30 #[.pointer x] ∧
      Blk (((w1.alloc (.cells #[.pointer x] 30)).alloc (.cells #[.int .u64 0] 22)).alloc (.cells #[.bool false] 4)) (w1.heap.size + 1) 22 #[.int .u64 0] ∧
      Blk (((w1.alloc (.cells #[.pointer x] 30)).alloc (.cells #[.int .u64 0] 22)).alloc (.cells #[.bool false] 4)) (w1.heap.size + 1 + 1) 4 #[.bool false] ∧
      (((w1.alloc (.cells #[.pointer x] 30)).alloc (.cells #[.int .u64 0] 22)).alloc (.cells #[.bool false] 4)).heap.size = w1.heap.size + 3 := by
    refine ⟨((Blk.new w1 30 #[.pointer x]).alloc _).alloc _, ?_, ?_, by simp⟩
    · have := (Blk.new (w1.alloc (.cells #[.pointer x] 30)) 22 #[.int .u64 0]).alloc (.cells #[.bool false] 4)
      rwa [World.size_alloc] at this
    · have := Blk.new ((w1.alloc (.cells #[.pointer x] 30)).alloc (.cells #[.int .u64 0] 22)) 4 #[.bool false]
      rwa [World.size_alloc, World.size_alloc] at this
  have HB1 := Lib.hid b1
  have HB2 := Lib.hid b2
  have HB3 := Lib.hid b3
  have HX4 := Lib.hid (HX1.out.trans hx4)
  have HL4 := Lib.hid (HL1.out.ext hx4)
  have HV4 := Lib.hid (HV1.out.ext hx4)
  have HQ := Lib.hid hxq
  have hs1 := HX1.out.size
  have hvl1 := HV1.out.lt
  generalize ((w1.alloc (.cells #[.pointer x] 30)).alloc (.cells #[.int .u64 0] 22)).alloc (.cells #[.bool false] 4) = w4 at *
  have HSZ := Lib.hid hsz4
  clear hsz4
  clear hx4 b1 b2 b3 hxq HV0 HV1 HL0 HL1
  refine ⟨trivial, ?_⟩
  refine (callsIn_wide.2 (all_value w4 _)).mono ?_
  rintro e w5 ⟨rfl, rfl⟩
  have hx5 : Ext w4 (w4.alloc (.cells #[logV L] 23)) := (Ext.refl w4).alloc _ _
  have HBB := Lib.hid (Blk.new w4 23 #[logV L])
  have HA1 := Lib.hid (HB1.out.ext hx5)
  have HA2 := Lib.hid (HB2.out.ext hx5)
  have HA3 := Lib.hid (HB3.out.ext hx5)
  have HX5 := Lib.hid (HX4.out.trans hx5)
  have HL5 := Lib.hid (HL4.out.ext hx5)
  have HV5 := Lib.hid (HV4.out.ext hx5)
  generalize w4.alloc (.cells #[logV L] 23) = w5 at *
  clear hx5 HB1 HB2 HB3 HX4 HL4 HV4
  have hlB := HBB.out.lt
  have hn0 : w1.heap.size + 1 ≤ w5.heap.size := by have := HSZ.out; omega
  have hn1 : w1.heap.size + 1 + 1 < w5.heap.size := by have := HSZ.out; omega
  have hps : 1 ≤ ps.length := by have := HXX.out.2.1; rw [List.length_map] at this; omega
  have hleB : ∀ q ∈ ps, LeadsB (w1.heap.size + 1) w5 q := fun q hq => ⟨(HLE.out q hq).ext HX5.out, fun a e => by
    obtain ⟨c, t, hc⟩ := HLE.out q hq a e
    have := (Array.getElem?_eq_some_iff.1 hc).1
    omega⟩
  have hst := all_stopsB (w1.heap.size + 1) hn0 HL5.out (by omega) (by omega) hps hleB w4.heap.size (HBB.out.cell 0) hlB (6 - 1) (by decide)
  have HST := Lib.hid hst
  have HXQ := Lib.hid (show LeadsB (w1.heap.size + 1) w5 x from ⟨HQ.out.ext HX5.out, fun a e => by
    obtain ⟨c, t, hc⟩ := HQ.out a e
    have := (Array.getElem?_eq_some_iff.1 hc).1
    omega⟩)
  have h00 : SI (w1.heap.size + 1) w5 x [] w5 := ⟨⟨HA2.out.cell 0, HA2.out.frozen 0, HA3.out.cell 0, HA3.out.frozen 0⟩, Below.refl _ _⟩
  have H00 := Lib.hid h00
  clear hst hleB h00
  gi_wp2_with fail
  refine wpIn_rangeFunc_ownH rfl (by decide) (gf := 96) (lb := #[.pointer (some ⟨w4.heap.size, 0, none⟩)]) rfl trivial (enters_of Try.func96 (by kernel_rfl) rfl)
    HST.out KB.trans (KB.put hn0 hlB) (Below.refl _ _) (fun _ => rfl)
    (fun pre W => SI (w1.heap.size + 1) w5 x (pre.map Subtype.val) W ∧ ∀ p ∈ pre, p.1.1 ≠ v)
    (fun c pre W => c = .exit 0 ∧ SI (w1.heap.size + 1) w5 x (pre.map Subtype.val) W ∧ ∃ (pre' : List (ToldB (w1.heap.size + 1) w5)) (p : ToldB (w1.heap.size + 1) w5), pre = pre' ++ [p] ∧ p.1.1 = v)
    (fun s A C row hs hg hr => ⟨SI.own hn0 hn0 _ A C row hs.1 hg hr, hs.2⟩)
    (fun c s A C row hs hg hr => ⟨hs.1, SI.own hn0 hn0 _ A C row hs.2.1 hg hr, hs.2.2⟩)
    ⟨H00.out, fun p hp => by cases hp⟩
    (fun p a' W => ∃ Bx, w5.heap.size ≤ Bx ∧ Blk W Bx 30 #[.pointer p.1.2] ∧ a' = { tmps := #[logV L, .int .u64 v, undef, .pointer (some ⟨w.heap.size, 0, none⟩), .int .u64 0, .bool false, .pointer (some ⟨w1.heap.size, 0, none⟩), .bool true, .pointer (some ⟨w1.heap.size + 1, 0, none⟩), .pointer (some ⟨w1.heap.size + 1 + 1, 0, none⟩), .int .u64 p.1.1, .pointer (some ⟨Bx, 0, none⟩), .tuple #[.agg #[.pointer x], .bool true], logV L, .int .u64 v, .tuple #[.agg #[.pointer x], .bool true], .agg #[.pointer x], .bool true, .bool true, .bool false, logV L, .func (.func 96) #[] #[.pointer (some ⟨w4.heap.size, 0, none⟩)], .int .u64 p.1.1, .agg #[.pointer p.1.2], undef, undef, undef, undef, undef, undef, undef, undef, undef, undef, undef], defers := [] })
    (fun p a' s A C row hs hg hr => by
      obtain ⟨Bx, h1, h2, h3⟩ := hs
      exact ⟨Bx, h1, boxed_own Bx 30 (fun (_ : Unit) => Value.pointer p.1.2) () A C row h2 hg (fun r e => (hr r e).2), h3⟩)
    ?assign ?body ?done ?stop
  case assign =>
    rintro l pre p W K ⟨hI, hpv⟩ hK
    have HI := Lib.hid hI
    have HPV := Lib.hid hpv
    have HK := Lib.hid hK
    have hs5 := hI.2.size
    have HAL := Lib.hid (show Ext W (W.alloc (.cells #[.pointer p.1.2] 30)) from (Ext.refl W).alloc _ _)
    have HBN := Lib.hid (Blk.new W 30 #[.pointer p.1.2])
    clear hI hK hpv
    gi_wp2_with fail
    obtain ⟨Bx, hBx⟩ : ∃ Bx, W.heap.size = Bx := ⟨_, rfl⟩
    have HBN' := HBN.out
    rw [hBx] at HBN' ⊢
    refine HK.out _ _ (HAL.out.others.from _) ⟨HAL.out.below.mono (by omega), HAL.out.heap (by omega)⟩ ⟨HI.out.ext HAL.out (by omega), HPV.out⟩ ⟨Bx, by omega, HBN', rfl⟩
  case body =>
    rintro l pre p a' W hl ⟨r, hr⟩ ⟨hI, hpv⟩ ⟨Bx, hBx, hbx, rfl⟩ hlen
    have hst := hI.2
    have c6 : W.cell? ⟨w1.heap.size, 0, none⟩ = some (.pointer x) := (hst.cell (p := ⟨w1.heap.size, 0, none⟩) (Nat.lt_succ_self _)).trans (HA1.out.cell 0)
    have c3 : W.cell? ⟨w.heap.size, 0, none⟩ = some (.int .u64 v) := (hst.cell (p := ⟨w.heap.size, 0, none⟩) (by show w.heap.size < w1.heap.size + 1; omega)).trans (HV5.out.cell 0)
    have cx : W.cell? ⟨Bx, 0, none⟩ = some (.pointer p.1.2) := hbx.cell 0
    have lx := HXQ.out.agree hst
    have lp := p.2.2.agree hst
    have hsW := hst.size
    have hc := is_any W p.1.2 x lp lx
    have HI := Lib.hid hI
    have HPV := Lib.hid hpv
    have HC := Lib.hid hc
    have hBxl := hbx.lt
    clear hI hpv hst lx lp hbx hc hr
    gi_wp2_with fail
    refine ⟨trivial, ?_⟩
    refine (CallsIn.inRound l (callsIn_wide.2 HC.out)).mono ?_
    rintro e W5 ⟨rfl, hx5⟩
    have hsi5 := HI.out.ext hx5 (by omega)
    obtain ⟨⟨c8, f8, c9, f9⟩, -⟩ := id hsi5
    have hk5 : KB (w1.heap.size + 1) w4.heap.size W W5 := ⟨hx5.below.mono (by omega), hx5.heap (by omega)⟩
    have c35 : W5.cell? ⟨w.heap.size, 0, none⟩ = some (.int .u64 v) := (hx5.cell (by omega)).trans c3
    have hne1 : w4.heap.size ≠ w1.heap.size + 1 := by have := HSZ.out; omega
    have hne2 : w4.heap.size ≠ w1.heap.size + 1 + 1 := by have := HSZ.out; omega
    have HSI := Lib.hid hsi5
    have HK5 := Lib.hid hk5
    have HX55 := Lib.hid hx5
    clear hsi5 hk5 hx5 c3 c6 cx
    by_cases hpx : p.1.2 = x
    · rw [decide_eq_true hpx]
      by_cases hg : (sinceF x (pre.map Subtype.val)).2 = true
      · rw [hg] at c9
        have hS' : SI (w1.heap.size + 1) w5 x ((pre ++ [p]).map Subtype.val) (W5) := by
          rw [map_snoc]
          exact HSI.out.on hpx hg
        have hO' : KeepsFrom w5.heap.size W (W5) := (HX55.out.others).from _
        have hK' : KB (w1.heap.size + 1) w4.heap.size W (W5) := HK5.out
        have HS' := Lib.hid hS'
        have HO' := Lib.hid hO'
        have HK' := Lib.hid hK'
        clear hS' hO' hK'
        by_cases hpe : p.1.1 = v
        · have hpe' : (p.1.1 : Int) = (v : Int) := by omega
          have hS2 := HS'.out
          have hO2 := HO'.out
          try rw [hpe] at hS2 hO2
          have HS2 := Lib.hid hS2
          have HO2 := Lib.hid hO2
          clear hS2 hO2
          gi_wp2_with fail
          exact ⟨HO2.out, rfl, HS2.out, pre, p, rfl, hpe⟩
        · have hpe' : ((p.1.1 : Int) == (v : Int)) = false := beq_eq_false_iff_ne.2 (by omega)
          have hpe2 : ¬ (p.1.1 : Int) = (v : Int) := by omega
          gi_wp2_with fail
          exact ⟨HO'.out, HK'.out, HS'.out, fun q hq => (List.mem_append.1 hq).elim (HPV.out q) fun h => by rw [List.mem_singleton.1 h]; exact hpe⟩
      · have hg' : (sinceF x (pre.map Subtype.val)).2 = false := by simpa using hg
        rw [hg'] at c9
        have hS' : SI (w1.heap.size + 1) w5 x ((pre ++ [p]).map Subtype.val) ((W5.setCell ⟨w1.heap.size + 1, 0, none⟩ (.int .u64 p.1.1)).setCell ⟨w1.heap.size + 1 + 1, 0, none⟩ (.bool true)) := by
          rw [map_snoc]
          exact HSI.out.new hpx hg'
        have hO' : KeepsFrom w5.heap.size W ((W5.setCell ⟨w1.heap.size + 1, 0, none⟩ (.int .u64 p.1.1)).setCell ⟨w1.heap.size + 1 + 1, 0, none⟩ (.bool true)) := ((HX55.out.others.trans (KeepsOthers.setCell _ _ _)).trans (KeepsOthers.setCell _ _ _)).from _
        have hK' : KB (w1.heap.size + 1) w4.heap.size W ((W5.setCell ⟨w1.heap.size + 1, 0, none⟩ (.int .u64 p.1.1)).setCell ⟨w1.heap.size + 1 + 1, 0, none⟩ (.bool true)) := (HK5.out.set (a := ⟨w1.heap.size + 1, 0, none⟩) (Nat.le_refl _) hne1 _).set (a := ⟨w1.heap.size + 1 + 1, 0, none⟩) (Nat.le_succ _) hne2 _
        have HS' := Lib.hid hS'
        have HO' := Lib.hid hO'
        have HK' := Lib.hid hK'
        clear hS' hO' hK'
        by_cases hpe : p.1.1 = v
        · have hpe' : (p.1.1 : Int) = (v : Int) := by omega
          have hS2 := HS'.out
          have hO2 := HO'.out
          try rw [hpe] at hS2 hO2
          have HS2 := Lib.hid hS2
          have HO2 := Lib.hid hO2
          clear hS2 hO2
          gi_wp2_with fail
          exact ⟨HO2.out, rfl, HS2.out, pre, p, rfl, hpe⟩
        · have hpe' : ((p.1.1 : Int) == (v : Int)) = false := beq_eq_false_iff_ne.2 (by omega)
          have hpe2 : ¬ (p.1.1 : Int) = (v : Int) := by omega
          gi_wp2_with fail
          exact ⟨HO'.out, HK'.out, HS'.out, fun q hq => (List.mem_append.1 hq).elim (HPV.out q) fun h => by rw [List.mem_singleton.1 h]; exact hpe⟩
    · rw [decide_eq_false hpx]
      have hS' : SI (w1.heap.size + 1) w5 x ((pre ++ [p]).map Subtype.val) (W5.setCell ⟨w1.heap.size + 1 + 1, 0, none⟩ (.bool false)) := by
        rw [map_snoc]
        exact HSI.out.stop hpx
      have hO' : KeepsFrom w5.heap.size W (W5.setCell ⟨w1.heap.size + 1 + 1, 0, none⟩ (.bool false)) := (HX55.out.others.trans (KeepsOthers.setCell _ _ _)).from _
      have hK' : KB (w1.heap.size + 1) w4.heap.size W (W5.setCell ⟨w1.heap.size + 1 + 1, 0, none⟩ (.bool false)) := HK5.out.set (a := ⟨w1.heap.size + 1 + 1, 0, none⟩) (Nat.le_succ _) hne2 _
      have HS' := Lib.hid hS'
      have HO' := Lib.hid hO'
      have HK' := Lib.hid hK'
      clear hS' hO' hK'
      by_cases hpe : p.1.1 = v
      · have hpe' : (p.1.1 : Int) = (v : Int) := by omega
        have hS2 := HS'.out
        have hO2 := HO'.out
        try rw [hpe] at hS2 hO2
        have HS2 := Lib.hid hS2
        have HO2 := Lib.hid hO2
        clear hS2 hO2
        gi_wp2_with fail
        exact ⟨HO2.out, rfl, HS2.out, pre, p, rfl, hpe⟩
      · have hpe' : ((p.1.1 : Int) == (v : Int)) = false := beq_eq_false_iff_ne.2 (by omega)
        have hpe2 : ¬ (p.1.1 : Int) = (v : Int) := by omega
        gi_wp2_with fail
        exact ⟨HO'.out, HK'.out, HS'.out, fun q hq => (List.mem_append.1 hq).elim (HPV.out q) fun h => by rw [List.mem_singleton.1 h]; exact hpe⟩
  case done =>
    rintro D ys W hD hys ⟨hI, hpv⟩ hK
    exfalso
    obtain ⟨k1, k2, k3, k4⟩ := HXX.out
    rw [List.length_map] at k2 k3
    have hgl : gone keep ps ≤ v - f := by unfold gone; omega
    have hkm : v - f - gone keep ps < min ps.length keep := by unfold gone at *; omega
    have h1 := toldL_at (f := f) hkm
    rw [← hys, List.getElem?_map] at h1
    cases hg : ys[v - f - gone keep ps]? with
    | none => rw [hg] at h1; cases h1
    | some q =>
      rw [hg] at h1
      simp only [Option.map_some, Option.some.injEq] at h1
      apply hpv q (List.mem_of_getElem? hg)
      rw [h1]
      show f + gone keep ps + (v - f - gone keep ps) = v
      omega
  case stop =>
    rintro D c pre W hD hSp ⟨rfl, hI, pre', p, rfl, hp⟩ hK
    obtain ⟨k1, k2, k3, k4⟩ := HXX.out
    rw [List.length_map] at k2 k3
    obtain ⟨tls, htl⟩ := hSp
    have h1 : (toldL keep f ps)[pre'.length]? = some p.1 := by
      rw [← htl, List.map_append, List.append_assoc, List.getElem?_append_right (by simp)]; simp
    have hlt : pre'.length < min ps.length keep := by
      rw [← toldL_len keep f]; exact (List.getElem?_eq_some_iff.1 h1).1
    rw [toldL_at hlt] at h1
    simp only [Option.some.injEq] at h1
    have hv' : f + gone keep ps + pre'.length = v := by rw [← hp, ← h1]
    have hvf : gone keep ps + pre'.length = v - f := by omega
    have hl : (pre' ++ [p]).map Subtype.val = tl (f + gone keep ps) (fun i => ps.getD (gone keep ps + i) none) (pre'.length + 1) := by
      have e1 : (pre' ++ [p]).map Subtype.val = (toldL keep f ps).take (pre'.length + 1) := by
        rw [← htl, List.take_append_of_le_length (by simp), List.take_of_length_le (by simp)]
      rw [e1]
      unfold toldL tl
      rw [← List.map_take, List.take_range, Nat.min_eq_left (by omega)]
    have hxr : (fun i => ps.getD (gone keep ps + i) none) pre'.length = x := by
      show ps.getD (gone keep ps + pre'.length) none = x
      rw [hvf, List.getD_eq_getElem?_getD]
      rw [List.getElem?_map] at k4
      cases hg : ps[v - f]? with
      | none => rw [hg] at k4; cases k4
      | some q => rw [hg] at k4; simp at k4; rw [k4]; rfl
    obtain ⟨-, hrun⟩ := sinceF_run (f + gone keep ps) (fun i => ps.getD (gone keep ps + i) none) x pre'.length
    obtain ⟨s, hs1, hs2, hs3, hs4⟩ := hrun hxr
    rw [← hl] at hs2
    have hxx : ps.getD (v - f) none = x := by rw [← hvf]; exact hxr
    have HRUN := Lib.hid (show RunAt (fun i => ps.getD i none) (gone keep ps) (v - f) (gone keep ps + s) from
      ⟨Nat.le_add_right _ _, by omega, fun i h1 h2 => by
        show ps.getD i none = ps.getD (v - f) none
        have := hs3 (i - gone keep ps) (by omega) (by omega)
        rw [show gone keep ps + (i - gone keep ps) = i from by omega] at this
        rw [this, hxx], by
        show gone keep ps + s = gone keep ps ∨ ps.getD (gone keep ps + s - 1) none ≠ ps.getD (v - f) none
        rcases Nat.eq_zero_or_pos s with h0 | h0
        · left; omega
        · right
          rcases hs4 with h5 | h5
          · omega
          · rw [hxx, show gone keep ps + s - 1 = gone keep ps + (s - 1) from by omega]; exact h5⟩)
    obtain ⟨⟨c8, f8, c9, f9⟩, hb⟩ := hI
    rw [hs2] at c8
    have HB := Lib.hid hb
    have HK := Lib.hid hK
    have HKEPT := Lib.hid (show f ≤ v ∧ v - f < ps.length ∧ ps.length ≤ v - f + keep from ⟨k1, k2, k3⟩)
    have hsz := hb.size
    clear hrun hs2 hs3 hs4 hl hxr hxx h1 hlt hv' hvf k1 k2 k3 k4 htl hb hK c9 f9 hp
    gi_wp2_with fail
    have hwn : w.heap.size ≤ w1.heap.size + 1 := by omega
    have hwD : w.heap.size ≤ D := by have := HX5.out.size; omega
    refine ⟨by simp, .inl ⟨_, _, rfl, run_takeDeferred HK.out, ?_⟩⟩
    refine ⟨_, results_tmp2 rfl _ _ _, .inr ⟨HKEPT.out, gone keep ps + s, ?_, HRUN.out⟩, ((HX5.out.below.trans (HB.out.mono hwn)).trans (belowK_b (w := w) (Nat.le_refl _) W D _ _ hwD HK.out rfl rfl))⟩
    rw [show ((f + (gone keep ps + s) : Nat) : Int) = (f : Int) + (gone keep ps : Int) + (s : Int) from by omega]
    rfl
end Go.Proofs.Ytpapoalgocmlaaa
namespace Go.Proofs.Ytpapoalgocmlaaa
open Go.RowKit
set_option linter.unusedVariables false
set_option linter.unusedSimpArgs false
def verV (f n : Nat) : List Value := (List.range n).map fun j => .int .u64 ((f + j : Nat) : Int)
theorem verV_at {f n j : Nat} (h : j < n) : (verV f n)[j]? = some (.int .u64 ((f + j : Nat) : Int)) := by simp [verV, h]
theorem verV_succ (f n : Nat) : verV f (n + 1) = verV f n ++ [.int .u64 ((f + n : Nat) : Int)] := by simp [verV, List.range_succ]
def numV (ns : List Nat) : List Value := ns.map fun (k : Nat) => Value.int .i64 (k : Int)
theorem numV_at {ns : List Nat} {j : Nat} (h : j < ns.length) : (numV ns)[j]? = some (.int .i64 (ns.getD j 0 : Nat)) := by
  simp [numV, h]
theorem drewN_two (w : World) (a b : Nat) : (w.drewN a).drewN b = w.drewN (a + b) := by
  simp [World.drewN, Nat.add_assoc]
structure RefL (w : World) (P keep f : Nat) (ns : List Nat) (sv sn : Sl) : Prop where
  blk : Blk w P 66 #[.int .i64 keep, .slice sv.a ns.length sv.c, .slice sn.a ns.length sn.c]
  rv : Rd w (fun b => b < w.heap.size ∧ P < b) 1 sv ns.length (verV f ns.length)
  rn : Rd w (fun b => b < w.heap.size ∧ P < b) 1 sn ns.length (numV ns)
  few : ns.length ≤ 1000
  small : f + ns.length ≤ 4611686018427388904
  keep1 : 1 ≤ keep ∧ keep ≤ 2000
theorem RefL.agree {w w' : World} {P keep f : Nat} {ns : List Nat} {sv sn : Sl} (h : RefL w P keep f ns sv sn) {F : Nat → Prop} (ha : Agree F w w') (hF : ∀ b, b < w.heap.size → P ≤ b → F b) (hs : w.heap.size ≤ w'.heap.size) : RefL w' P keep f ns sv sn :=
  ⟨h.blk.agree ha (hF _ h.blk.lt (Nat.le_refl _)), (h.rv.agree (ha.mono fun i hi => hF i hi.1 (Nat.le_of_lt hi.2))).mono fun i hi => ⟨Nat.lt_of_lt_of_le hi.1 hs, hi.2⟩, (h.rn.agree (ha.mono fun i hi => hF i hi.1 (Nat.le_of_lt hi.2))).mono fun i hi => ⟨Nat.lt_of_lt_of_le hi.1 hs, hi.2⟩, h.few, h.small, h.keep1⟩
theorem RefL.ext {w w' : World} {P keep f : Nat} {ns : List Nat} {sv sn : Sl} (h : RefL w P keep f ns sv sn) (he : Ext w w') : RefL w' P keep f ns sv sn :=
  h.agree (he.agree (F := Lt w.heap.size) fun _ h => h) (fun _ h _ => h) he.size
theorem RefL.below {w w' : World} {P keep f : Nat} {ns : List Nat} {sv sn : Sl} (h : RefL w P keep f ns sv sn) (he : Below w.heap.size w w') : RefL w' P keep f ns sv sn :=
  h.agree (Agree.of_below he (F := Lt w.heap.size) fun _ h => h) (fun _ h _ => h) he.size
set_option maxRecDepth 100000 in
set_option maxHeartbeats 400000 in
theorem first19 {w : World} {P keep f : Nat} {ns : List Nat} {sv sn : Sl} (h : RefL w P keep f ns sv sn) : Calls Try.prog 100 #[.pointer (some ⟨P, 0, none⟩)] w fun e w' => e = .returned (.int .i64 (ns.length - min ns.length keep : Nat)) ∧ ∃ q, w' = w.drewN q := by
  obtain ⟨c0, c1, c2⟩ := h.blk.c3
  have hk := h.keep1
  have hfew := h.few
  clear h
  obtain ⟨m, hm⟩ : ∃ m, ns.length = m := ⟨_, rfl⟩
  rw [hm] at c1 c2 hfew ⊢
  clear hm
  by_cases hlt : keep < m
  · have g1 : decide ((keep : Int) < (m : Int)) = true := decide_eq_true (by omega)
    have g1' : (keep : Int) < (m : Int) := by omega
    have hw1 : IntKind.i64.wrap ((m : Int) - (keep : Int)) = (m : Int) - (keep : Int) := by rw [IntKind.wrap_i64]; omega
    go_enter Try.func100, Try.ntmps100
    go_wp2_with fail
    go_quiet (fail)
    go_wp2_with fail
    go_quiet (fail)
    go_wp2_with fail
    go_ret
    refine ⟨?_, _, drewN_two _ _ _⟩
    rw [show ((m - min m keep : Nat) : Int) = (m : Int) - (keep : Int) from by omega]
    rfl
  · have g1 : decide ((keep : Int) < (m : Int)) = false := decide_eq_false (by omega)
    have g1' : ¬ (keep : Int) < (m : Int) := by omega
    go_enter Try.func100, Try.ntmps100
    go_wp2_with fail
    go_quiet (fail)
    go_wp2_with fail
    go_ret
    refine ⟨?_, _, rfl⟩
    rw [show ((m - min m keep : Nat) : Int) = 0 from by omega]
    rfl
theorem first19e {w : World} {P keep f : Nat} {ns : List Nat} {sv sn : Sl} (h : RefL w P keep f ns sv sn) : Calls Try.prog 100 #[.pointer (some ⟨P, 0, none⟩)] w fun e w' => e = .returned (.int .i64 (ns.length - min ns.length keep : Nat)) ∧ Ext w w' :=
  (first19 h).mono fun e w' ⟨h1, q, h2⟩ => ⟨h1, h2 ▸ (Ext.refl w).drewN q⟩
set_option maxRecDepth 100000 in
set_option maxHeartbeats 800000 in
theorem at19 {w : World} {P keep f : Nat} {ns : List Nat} {sv sn : Sl} (h : RefL w P keep f ns sv sn) (v : Nat) : Calls Try.prog 97 #[.pointer (some ⟨P, 0, none⟩), .int .u64 v] w fun e w' =>
    ((¬ (f ≤ v ∧ v - f < ns.length ∧ ns.length ≤ v - f + keep) ∧ e = .returned (.int .i64 (-1))) ∨ ((f ≤ v ∧ v - f < ns.length ∧ ns.length ≤ v - f + keep) ∧ e = .returned (.int .i64 (v - f : Nat)))) ∧ Ext w w' := by
  have hc := first19e h
  have HH := Lib.hid h
  have hk := h.keep1
  have hfew := h.few
  have hsm := h.small
  clear h
  go_enter Try.func97, Try.ntmps97
  go_wp2_with fail
  refine hc.mono ?_
  rintro e w1 ⟨rfl, hx1⟩
  have HX := Lib.hid hx1
  have hH := HH.out.ext hx1
  obtain ⟨-, c1, -⟩ := hH.blk.c3
  obtain ⟨b, o, hsl, hln, hcl⟩ := id hH.rv
  have HSL := Lib.hid hsl
  have HCL := Lib.hid hcl
  obtain ⟨m, hm⟩ : ∃ m, ns.length = m := ⟨_, rfl⟩
  obtain ⟨g, hg⟩ : ∃ g, m - min m keep = g := ⟨_, rfl⟩
  rw [hm] at c1 hfew hsm ⊢
  rw [hg]
  have HM := Lib.hid hm
  have HG := Lib.hid hg
  obtain ⟨K, hK⟩ : ∃ K, K = v - f := ⟨_, rfl⟩
  have HKV := Lib.hid hK
  clear hK
  clear hc hx1 hH hsl hcl hln hm hg
  go_wp2_with fail
  go_loopw [5] (fun q wr => ∃ j : Nat, g ≤ j ∧ j ≤ m ∧ q = .int .i64 j ∧ wr = w1 ∧ ∀ i, g ≤ i → i < j → f + i ≠ v) (fun q _ => m - (intOf q).toNat)
  case atStart => exact ⟨g, Nat.le_refl _, by have := HG.out; omega, rfl, rfl, fun i h1 h2 => by omega⟩
  case round =>
    obtain ⟨j, hj1, hj2, rfl, rfl, hno⟩ := hrel
    have HNO := Lib.hid hno
    clear hno
    by_cases hlt : j < m
    · have hlt' : (j : Int) < (m : Int) := by omega
      have hsl := HSL.out
      rw [HM.out] at hsl
      obtain ⟨ha, hc1, hc2⟩ := hsl.eq (by omega)
      rw [ha] at c1
      have hcv := HCL.out j _ (verV_at (by rw [HM.out]; exact hlt))
      have HA := Lib.hid ha
      clear hsl ha
      by_cases hv : f + j = v
      · have hv' : ((f + j : Nat) : Int) = (v : Int) := by omega
        rw [hv'] at hcv
        have HV := Lib.hid hv
        have HJ := Lib.hid hlt
        have HJ1 := Lib.hid hj1
        clear hv hv'
        go_wp2_with fail
        go_ret
        have hv := HV.out
        have hj := HJ.out
        have hjg := HJ1.out
        have hgg := HG.out
        have hmm := HM.out
        refine ⟨.inr ⟨⟨by omega, by omega, by omega⟩, ?_⟩, HX.out⟩
        rw [show v - f = j from by omega]; rfl
      · have hv' : ((((f + j : Nat) : Int)) == (v : Int)) = false := beq_eq_false_iff_ne.2 (by omega)
        have hv2 : ¬ ((f + j : Nat) : Int) = (v : Int) := by omega
        obtain ⟨u, hu⟩ : ∃ u : Int, ((f + j : Nat) : Int) = u := ⟨_, rfl⟩
        rw [hu] at hcv hv' hv2
        have HV := Lib.hid hv
        clear hv hu
        go_wp2_with fail
        go_roundw
        case rel => exact ⟨j + 1, by omega, hlt, by go_num, trivial, fun i h1 h2 => by
          rcases Nat.lt_or_ge i j with h3 | h3
          · exact HNO.out i h1 h3
          · obtain rfl : i = j := by omega
            exact HV.out⟩
        case measure => simp [intOf]; omega
    · have hlt' : ¬ (j : Int) < (m : Int) := by omega
      have key : ¬ (f ≤ v ∧ v - f < ns.length ∧ ns.length ≤ v - f + keep) := by
        have hmm := HM.out
        have hgg := HG.out
        have hkk := HKV.out
        rintro ⟨h1, h2, h3⟩
        rw [← hkk] at h2 h3
        exact HNO.out K (by omega) (by omega) (by omega)
      have KEY := Lib.hid key
      clear key
      go_wp2_with fail
      go_ret
      exact ⟨.inl ⟨by first | exact KEY.out | exact fun h1 h2 => Nat.lt_of_not_le fun h3 => KEY.out ⟨h1, h2, h3⟩, rfl⟩, HX.out⟩
set_option maxRecDepth 100000 in
set_option maxHeartbeats 1600000 in
theorem since19 {w : World} {P keep f : Nat} {ns : List Nat} {sv sn : Sl} (h : RefL w P keep f ns sv sn) (v : Nat) (hk : f ≤ v ∧ v - f < ns.length ∧ ns.length ≤ v - f + keep) :
    Calls Try.prog 98 #[.pointer (some ⟨P, 0, none⟩), .int .u64 v] w fun e w' => (∃ s : Nat, e = .returned (.int .i64 s) ∧ RunAt (fun i => ns.getD i 0) (ns.length - min ns.length keep) (v - f) s) ∧ Ext w w' := by
  have hc := at19 h v
  have HH := Lib.hid h
  have hkeep := h.keep1
  have hfew := h.few
  clear h
  obtain ⟨k, hkv⟩ : ∃ k, v - f = k := ⟨_, rfl⟩
  rw [hkv] at hk hc ⊢
  obtain ⟨k1, k2, k3⟩ := hk
  have HKV := Lib.hid hkv
  clear hkv
  go_enter Try.func98, Try.ntmps98
  go_wp2_with fail
  refine hc.mono ?_
  rintro e w1 ⟨⟨hn, -⟩ | ⟨-, rfl⟩, hx1⟩
  · exact absurd ⟨k1, k2, k3⟩ hn
  have hH := HH.out.ext hx1
  obtain ⟨-, -, c2⟩ := hH.blk.c3
  obtain ⟨b, o, hsl, hln, hcl⟩ := id hH.rn
  obtain ⟨m, hm⟩ : ∃ m, ns.length = m := ⟨_, rfl⟩
  obtain ⟨ha, hc1, hc2⟩ := hsl.eq (by omega)
  rw [ha] at c2
  have HCL := Lib.hid hcl
  have HX := Lib.hid hx1
  have hfi : ∀ W, (∃ q, W = w1.drewN q) → Calls Try.prog 100 #[.pointer (some ⟨P, 0, none⟩)] W fun e w' => e = .returned (.int .i64 (ns.length - min ns.length keep : Nat)) ∧ ∃ q, w' = W.drewN q := fun W hW => by
    obtain ⟨q, rfl⟩ := hW
    exact first19 (hH.ext ((Ext.refl w1).drewN q))
  obtain ⟨g, hg⟩ : ∃ g, ns.length - min ns.length keep = g := ⟨_, rfl⟩
  rw [hg] at hfi
  rw [hm] at c2 hfew k2 k3
  have hgk : g ≤ k := by omega
  have hkm : k < m := k2
  have HFI := Lib.hid hfi
  have HM := Lib.hid hm
  have HG := Lib.hid hg
  clear hc hx1 hH hsl hcl hln hm hg hfi ha hc1 hc2 k1 k2 k3
  go_wp2_with fail
  go_loopw [5] (fun q wr => ∃ i : Nat, g ≤ i ∧ i ≤ k ∧ q = .int .i64 i ∧ (∃ d, wr = w1.drewN d) ∧ ∀ t, i ≤ t → t ≤ k → ns.getD t 0 = ns.getD k 0) (fun q _ => (intOf q).toNat)
  case atStart => exact ⟨k, hgk, Nat.le_refl _, rfl, ⟨0, rfl⟩, fun t h1 h2 => (show t = k from by omega) ▸ rfl⟩
  case round =>
    obtain ⟨i, hi1, hi2, rfl, ⟨d, rfl⟩, hall⟩ := hrel
    have c2' : (w1.drewN d).cell? ⟨P, 2, none⟩ = some (.slice (some ⟨b, o, none⟩) m sn.c) := c2
    have HCL' := Lib.hid (show ∀ j u, (numV ns)[j]? = some u → (w1.drewN d).cell? ⟨b, o + j, none⟩ = some u from HCL.out)
    have hfi' : ∀ W, (∃ q, W = (w1.drewN d).drewN q) → Calls Try.prog 100 #[.pointer (some ⟨P, 0, none⟩)] W fun e w' => e = .returned (.int .i64 g) ∧ ∃ q, w' = W.drewN q := fun W hW => by
      obtain ⟨q, rfl⟩ := hW
      exact HFI.out _ ⟨_, drewN_two _ _ _⟩
    have HFI' := Lib.hid hfi'
    have HXd := Lib.hid (HX.out.drewN d)
    have hdd : ∀ q, ∃ d', (w1.drewN d).drewN q = w1.drewN d' := fun q => ⟨_, drewN_two _ _ _⟩
    have HDD := Lib.hid hdd
    have HALL := Lib.hid hall
    clear hall c2 hfi' hdd
    generalize w1.drewN d = W at *
    by_cases hlt : g < i
    · have hlt' : (g : Int) < (i : Int) := by omega
      have hltd : decide ((g : Int) < (i : Int)) = true := decide_eq_true hlt'
      have hw1 : IntKind.i64.wrap ((i : Int) - 1) = ((i - 1 : Nat) : Int) := by rw [IntKind.wrap_i64]; omega
      have hb1 : ((i - 1 : Nat) : Int) < (m : Int) := by omega
      have hb2 : (i : Int) < (m : Int) := by omega
      have e1 : W.cell? ⟨b, o + (i - 1), none⟩ = some (.int .i64 (ns.getD (i - 1) 0 : Nat)) := HCL'.out (i - 1) _ (numV_at (by rw [HM.out]; omega))
      have e2 : W.cell? ⟨b, o + i, none⟩ = some (.int .i64 (ns.getD i 0 : Nat)) := HCL'.out i _ (numV_at (by rw [HM.out]; omega))
      obtain ⟨p, hp⟩ : ∃ p, i - 1 = p := ⟨_, rfl⟩
      rw [hp] at hw1 hb1 e1
      obtain ⟨x1, hx1⟩ : ∃ x, ns.getD p 0 = x := ⟨_, rfl⟩
      obtain ⟨x2, hx2⟩ : ∃ x, ns.getD i 0 = x := ⟨_, rfl⟩
      rw [hx1] at e1
      rw [hx2] at e2
      have HP := Lib.hid hp
      have HX1 := Lib.hid hx1
      have HX2 := Lib.hid hx2
      clear hp hx1 hx2
      by_cases hxx : x1 = x2
      · subst hxx
        go_wp2_with fail
        go_quiet ((go_at_call 100; refine (HFI'.out _ ⟨_, rfl⟩).mono ?_; rintro e w2 ⟨rfl, q2, rfl⟩; first | exact ⟨rfl, _, drew3 ..⟩ | exact ⟨rfl, _, drewN_two ..⟩))
        go_wp2_with fail
        go_roundw
        case rel =>
          have hp := HP.out
          refine ⟨p, by omega, by omega, rfl, HDD.out _, fun t h1 h2 => ?_⟩
          rcases Nat.lt_or_ge t i with h3 | h3
          · obtain rfl : t = p := by omega
            rw [HX1.out, ← HX2.out]
            exact HALL.out i (Nat.le_refl _) hi2
          · exact HALL.out t h3 h2
        case measure => have hp := HP.out; simp [intOf]; omega
      · have hxb : ((x1 : Int) == (x2 : Int)) = false := beq_eq_false_iff_ne.2 (by omega)
        have hx2' : ¬ (x1 : Int) = (x2 : Int) := by omega
        have HNE := Lib.hid hxx
        clear hxx
        go_wp2_with fail
        go_quiet ((go_at_call 100; refine (HFI'.out _ ⟨_, rfl⟩).mono ?_; rintro e w2 ⟨rfl, q2, rfl⟩; first | exact ⟨rfl, _, drew3 ..⟩ | exact ⟨rfl, _, drewN_two ..⟩))
        go_wp2_with fail
        go_ret
        have hp := HP.out
        have hkv := HKV.out
        refine ⟨⟨i, rfl, ?_⟩, HXd.out.drewN _⟩
        rw [HG.out]
        refine ⟨hi1, hi2, HALL.out, .inr ?_⟩
        show ns.getD (i - 1) 0 ≠ ns.getD k 0
        rw [hp, HX1.out, ← HALL.out i (Nat.le_refl _) hi2, HX2.out]
        exact HNE.out
    · have hlt' : ¬ (g : Int) < (i : Int) := by omega
      have hltd : decide ((g : Int) < (i : Int)) = false := decide_eq_false hlt'
      obtain rfl : i = g := by omega
      go_wp2_with fail
      go_quiet ((go_at_call 100; refine (HFI'.out _ ⟨_, rfl⟩).mono ?_; rintro e w2 ⟨rfl, q2, rfl⟩; first | exact ⟨rfl, _, drew3 ..⟩ | exact ⟨rfl, _, drewN_two ..⟩))
      go_wp2_with fail
      go_ret
      refine ⟨⟨i, rfl, ?_⟩, HXd.out.drewN _⟩
      rw [HG.out]
      exact ⟨Nat.le_refl _, hi2, HALL.out, .inl rfl⟩
end Go.Proofs.Ytpapoalgocmlaaa
namespace Go.Proofs.Ytpapoalgocmlaaa
open Go.RowKit
set_option linter.unusedVariables false
set_option linter.unusedSimpArgs false
theorem Try.infoU64 : (Try.prog.info? 22).map (fun i => (i.zero, i.size, i.bytes)) = some (some (.int .u64 0), 1, 8) := by kernel_rfl
theorem Try.infoInt : (Try.prog.info? 3).map (fun i => (i.zero, i.size, i.bytes)) = some (some (.int .i64 0), 1, 8) := by kernel_rfl
theorem verV_one (f n : Nat) : ∀ u ∈ verV f n, u.oneCell' = true := by
  intro u hu
  simp only [verV, List.mem_map] at hu
  obtain ⟨j, -, rfl⟩ := hu
  rfl
theorem numV_one (ns : List Nat) : ∀ u ∈ numV ns, u.oneCell' = true := by
  intro u hu
  simp only [numV, List.mem_map] at hu
  obtain ⟨j, -, rfl⟩ := hu
  rfl
def Put19R (P keep f : Nat) (ns : List Nat) (k : Nat) (w : World) (e : Ending) (w' : World) : Prop :=
  e = .returned (.int .i64 0) ∧ (∃ sv sn, RefL w' P keep f (ns ++ [k]) sv sn ∧ Rd w' (fun b => w.heap.size ≤ b ∧ b < w'.heap.size ∧ P < b) 1 sv (ns ++ [k]).length (verV f (ns ++ [k]).length) ∧ Rd w' (fun b => w.heap.size ≤ b ∧ b < w'.heap.size ∧ P < b) 1 sn (ns ++ [k]).length (numV (ns ++ [k]))) ∧
    Agree (fun b => b < w.heap.size ∧ b ≠ P) w w' ∧ w.heap.size ≤ w'.heap.size ∧ (∀ a : World, Ext a w → a.heap.size ≤ P → Ext a w') ∧ Below 0 w w'
theorem two_ext {W0 w1 w2 : World} {s1 : Sl} {e n : Nat} {xs : List Value} {u : Value} {t : TypeId} (h1 : Wr W0 w1 none) (ho : w1.ownsRow W0.heap.size e 1 (.slice s1.a n s1.c) n xs) (h2 : Wr (w1.alloc (.cells #[u] t)) w2 s1.row) : Ext W0 w2 :=
  (((Ext.refl W0).wr h1 (fun i h => by cases h)).alloc _ _).wr h2 (fun i hi => (own_row ho hi).1)
theorem rd_set3 {W0 w2 : World} {P : Nat} {s : Sl} {n : Nat} {cs : List Value} (h : Rd W0 (fun b => b < W0.heap.size ∧ P < b) 1 s n cs) (he : Ext W0 w2) {p : Addr} (hp : p.block = P) (u : Value) :
    Rd (w2.setCell p u) (fun b => b < (w2.setCell p u).heap.size ∧ P < b) 1 s n cs :=
  ((h.agree (he.agree fun i hi => hi.1)).agree (Agree.setCell w2 p u (fun hi => by have : P < p.block := hi.2; omega))).mono fun i hi => ⟨by simpa using Nat.lt_of_lt_of_le hi.1 he.size, hi.2⟩
theorem put19_end {w W0 w2 w5 : World} {P keep f m v k et et' : Nat} {ns : List Nat} {sv sn s2 s4 : Sl} (hH : RefL w P keep f ns sv sn) (hm : ns.length = m) (hv : v = f + m) (hm1 : m < 1000) (hvm : v ≤ 4611686018427387903) (hW0 : Ext w W0) (e2 : Ext W0 w2)
    (o2 : w2.ownsRow W0.heap.size et 1 (.slice s2.a (m + 1) s2.c) (m + 1) (verV f m ++ [.int .u64 v])) (e5 : Ext (w2.setCell ⟨P, 1, none⟩ (.slice s2.a (m + 1) s2.c)) w5)
    (o4 : w5.ownsRow (w2.setCell ⟨P, 1, none⟩ (.slice s2.a (m + 1) s2.c)).heap.size et' 1 (.slice s4.a (m + 1) s4.c) (m + 1) (numV ns ++ [.int .i64 k])) :
    Put19R P keep f ns k w (.returned (.int .i64 0)) (w5.setCell ⟨P, 2, none⟩ (.slice s4.a (m + 1) s4.c)) := by
  have hP := hH.blk.lt
  have z1 : (w2.setCell ⟨P, 1, none⟩ (.slice s2.a (m + 1) s2.c)).heap.size = w2.heap.size := by simp
  have z2 : (w5.setCell ⟨P, 2, none⟩ (.slice s4.a (m + 1) s4.c)).heap.size = w5.heap.size := by simp
  have s0 := hW0.size
  have s1 := e2.size
  have s5 := e5.size
  rw [z1] at s5
  have hlen : (ns ++ [k]).length = m + 1 := by simp [hm]
  have hb0 : Below 0 w (w5.setCell ⟨P, 2, none⟩ (.slice s4.a (m + 1) s4.c)) := ((((hW0.trans e2).below.mono (Nat.zero_le _)).setCell (p := ⟨P, 1, none⟩) (Nat.zero_le _) (.slice s2.a (m + 1) s2.c)).trans (e5.below.mono (Nat.zero_le _))).setCell (p := ⟨P, 2, none⟩) (Nat.zero_le _) (.slice s4.a (m + 1) s4.c)
  have hv1 : Rd (w5.setCell ⟨P, 2, none⟩ (.slice s4.a (m + 1) s4.c)) (fun b => w.heap.size ≤ b ∧ b < (w5.setCell ⟨P, 2, none⟩ (.slice s4.a (m + 1) s4.c)).heap.size ∧ P < b) 1 s2 (ns ++ [k]).length (verV f (ns ++ [k]).length) := by
    have r1 := Rd.of_own o2
    have r2 := r1.agree (Agree.setCell w2 ⟨P, 1, none⟩ (.slice s2.a (m + 1) s2.c) (fun hi => by have : W0.heap.size ≤ P := hi.1; omega))
    have r3 := r2.agree (e5.agree fun i hi => by rw [z1]; exact hi.2)
    have r4 := r3.agree (Agree.setCell w5 ⟨P, 2, none⟩ (.slice s4.a (m + 1) s4.c) (fun hi => by have : W0.heap.size ≤ P := hi.1; omega))
    rw [hlen, verV_succ, ← hv]
    exact r4.mono fun i hi => ⟨by have := hi.1; omega, by rw [z2]; have := hi.2; omega, by have := hi.1; omega⟩
  have hn1 : Rd (w5.setCell ⟨P, 2, none⟩ (.slice s4.a (m + 1) s4.c)) (fun b => w.heap.size ≤ b ∧ b < (w5.setCell ⟨P, 2, none⟩ (.slice s4.a (m + 1) s4.c)).heap.size ∧ P < b) 1 s4 (ns ++ [k]).length (numV (ns ++ [k])) := by
    have r1 := Rd.of_own o4
    have r4 := r1.agree (Agree.setCell w5 ⟨P, 2, none⟩ (.slice s4.a (m + 1) s4.c) (fun hi => by have : (w2.setCell ⟨P, 1, none⟩ (.slice s2.a (m + 1) s2.c)).heap.size ≤ P := hi.1; rw [z1] at this; omega))
    rw [hlen, show numV (ns ++ [k]) = numV ns ++ [.int .i64 k] from by simp [numV]]
    exact r4.mono fun i hi => ⟨by have := hi.1; rw [z1] at this; omega, by rw [z2]; exact hi.2, by have := hi.1; rw [z1] at this; omega⟩
  refine ⟨rfl, ⟨s2, s4, ⟨?_, hv1.mono fun i hi => ⟨hi.2.1, hi.2.2⟩, hn1.mono fun i hi => ⟨hi.2.1, hi.2.2⟩, by rw [hlen]; omega, by rw [hlen]; omega, hH.keep1⟩, hv1, hn1⟩, ?_, by rw [z2]; omega, fun a ha hp => ?_, hb0⟩
  · have := ((((hH.blk.ext hW0).ext e2).set_ 1 (.slice s2.a (m + 1) s2.c)).ext e5).set_ 2 (.slice s4.a (m + 1) s4.c)
    rw [hlen]
    exact this
  · exact ((((hW0.trans e2).agree fun i hi => hi.1).trans (Agree.setCell w2 ⟨P, 1, none⟩ _ (fun hi => hi.2 rfl))).trans (e5.agree fun i hi => by rw [z1]; have := hi.1; omega)).trans (Agree.setCell w5 ⟨P, 2, none⟩ _ (fun hi => hi.2 rfl))
  · exact (((((ha.trans hW0).trans e2).set2 hp 1 _).trans e5).set2 hp 2 _)
set_option maxRecDepth 100000 in
set_option maxHeartbeats 4000000 in
theorem put19r {w : World} {P keep f : Nat} {ns : List Nat} {sv sn : Sl} (h : RefL w P keep f ns sv sn) (hfew : ns.length < 1000) (v k : Nat) (hv : v = f + ns.length) (hvm : v ≤ 4611686018427387903) :
    Calls Try.prog 41 #[.pointer (some ⟨P, 0, none⟩), .int .u64 v, .int .i64 k] w (Put19R P keep f ns k w) := by
  obtain ⟨iu, hiu, hu0, hu1, hu2⟩ := info_parts Try.infoU64
  obtain ⟨ii, hii, hi0, hi1, hi2⟩ := info_parts Try.infoInt
  have g1 : decide ((4611686018427387903 : Int) < (v : Int)) = false := decide_eq_false (by omega)
  have g1' : ¬ (4611686018427387903 : Int) < (v : Int) := by omega
  have HH := Lib.hid h
  have hPl := h.blk.lt
  obtain ⟨c0, c1, c2⟩ := h.blk.c3
  have cf := fun o => h.blk.frozen o
  have hrv := h.rv
  have hrn := h.rn
  clear h
  obtain ⟨m, hm⟩ : ∃ m, ns.length = m := ⟨_, rfl⟩
  rw [hm] at c1 c2 hfew hrv hrn hv
  have HM := Lib.hid hm
  have HV := Lib.hid hv
  have h63 : m + 1 ≤ maxLen := by unfold maxLen; omega
  clear hm hv
  by_cases h0 : m = 0
  · have m0 : decide (0 < (m : Int)) = false := decide_eq_false (by omega)
    have m0' : ¬ 0 < (m : Int) := by omega
    have H0 := Lib.hid h0
    clear h0
    have hW0 : Ext w w := Ext.refl w
    have HRV := Lib.hid hrv
    have HRN := Lib.hid hrn
    have HW0 := Lib.hid hW0
    clear hrv hrn hW0
    obtain ⟨W0, rfl⟩ : ∃ W0, W0 = w := ⟨_, rfl⟩
    go_enter Try.func41, Try.ntmps41
    go_wp2_with (first
        | (have hmark := HO3; at_builtin; refine wpList_append_x _ rfl _ _ 62 rfl (w2.setCell ⟨P, 1, none⟩ (.slice s2.a (m + 1) s2.c)).heap.size 3 ii (.int .i64 0) 1 8 Try.underlying62 hii hi0 hi1 hi2 rfl (by decide) s3 m (numV ns) rfl (HO3.out.alloc _) (fun _ => True) ⟨some ⟨w3.heap.size, 0, none⟩, 1⟩ 1 [.int .i64 k] rfl (Rd.one _ _ _) (by simp [Value.oneCell']) h63 (by omega) (by have := HSZ_w3; simp at this ⊢; omega) ?_; intro s4 w5 ho hw hs; have HO4 := Lib.hid ho; have HW4 := Lib.hid hw; clear ho hw hs; have hE5 := two_ext HW3.out HO3.out HW4.out; have r0 := (hE5.cell (o := 0) hPl3).trans q0; have r1 := (hE5.cell (o := 1) hPl3).trans q1; have r2 := (hE5.cell (o := 2) hPl3).trans q2; have fz5 := fun o => (hE5.frozen (o := o) hPl3).trans (cf3 o); have HE5 := Lib.hid hE5; clear hE5)
        | (have hmark2 := HO2; at_builtin; refine wpList_append_x _ rfl _ _ 62 rfl (w2.setCell ⟨P, 1, none⟩ (.slice s2.a (m + 1) s2.c)).heap.size 3 ii (.int .i64 0) 1 8 Try.underlying62 hii hi0 hi1 hi2 rfl (by decide) Sl.none 0 [] rfl (World.ownsRow_nil _ _ _ _) (fun b => b < (w2.setCell ⟨P, 1, none⟩ (.slice s2.a (m + 1) s2.c)).heap.size ∧ P < b) sn m (numV ns) rfl HRN3.out (numV_one ns) (by omega) (by omega) (Nat.le_refl _) ?_; intro s3 w3 ho hw hs; simp only [Nat.zero_add, List.nil_append] at ho ⊢; have HO3 := Lib.hid ho; have HW3 := Lib.hid (show Wr (w2.setCell ⟨P, 1, none⟩ (.slice s2.a (m + 1) s2.c)) w3 none from hw); clear ho hw hs; have HSZ_w3 : (w2.setCell ⟨P, 1, none⟩ (.slice s2.a (m + 1) s2.c)).heap.size ≤ w3.heap.size := HW3.out.grown.size)
        | (have hmark := HO1; at_builtin; refine wpList_append_x _ rfl _ _ 64 rfl W0.heap.size 22 iu (.int .u64 0) 1 8 Try.underlying64 hiu hu0 hu1 hu2 rfl (by decide) s1 m (verV f m) rfl (HO1.out.alloc _) (fun _ => True) ⟨some ⟨w1.heap.size, 0, none⟩, 1⟩ 1 [.int .u64 v] rfl (Rd.one _ _ _) (by simp [Value.oneCell']) h63 (by omega) (by have := HSZ_w1; simp; omega) ?_; intro s2 w2 ho hw hs; have HO2 := Lib.hid ho; have HW2 := Lib.hid hw; clear ho hw hs; have hE := two_ext HW1.out HO1.out HW2.out; have p0 := (hE.cell (o := 0) hPl).trans c0; have p1 := (hE.cell (o := 1) hPl).trans c1; have p2 := (hE.cell (o := 2) hPl).trans c2; have fz := fun o => (hE.frozen (o := o) hPl).trans (cf o); have q0 := (World.cell?_setCell_other w2 ⟨P, 1, none⟩ ⟨P, 0, none⟩ (.slice s2.a (m + 1) s2.c) (by simp)).trans p0; have q1 := World.cell?_setCell_same w2 ⟨P, 1, none⟩ (.slice s2.a (m + 1) s2.c) p1; have q2 := (World.cell?_setCell_other w2 ⟨P, 1, none⟩ ⟨P, 2, none⟩ (.slice s2.a (m + 1) s2.c) (by simp)).trans p2; have hPl3 : P < (w2.setCell ⟨P, 1, none⟩ (.slice s2.a (m + 1) s2.c)).heap.size := (by simpa using Nat.lt_of_lt_of_le hPl hE.size); have HRN3 := Lib.hid (rd_set3 HRN.out hE (p := ⟨P, 1, none⟩) rfl (.slice s2.a (m + 1) s2.c)); have cf3 : ∀ o, (w2.setCell ⟨P, 1, none⟩ (.slice s2.a (m + 1) s2.c)).frozen? ⟨P, o, none⟩ = false := (fun o => by rw [World.frozen?_setCell]; exact fz o); have HE := Lib.hid hE; clear hE)
        | (at_builtin; refine wpList_append_x _ rfl _ _ 64 rfl W0.heap.size 22 iu (.int .u64 0) 1 8 Try.underlying64 hiu hu0 hu1 hu2 rfl (by decide) Sl.none 0 [] rfl (World.ownsRow_nil _ _ _ _) (fun b => b < W0.heap.size ∧ P < b) sv m (verV f m) rfl HRV.out (verV_one f m) (by omega) (by omega) (Nat.le_refl _) ?_; intro s1 w1 ho hw hs; simp only [Nat.zero_add, List.nil_append] at ho ⊢; have HO1 := Lib.hid ho; have HW1 := Lib.hid (show Wr W0 w1 none from hw); clear ho hw hs; have HSZ_w1 : W0.heap.size ≤ w1.heap.size := HW1.out.grown.size))
    go_ret
    exact put19_end HH.out HM.out HV.out hfew hvm HW0.out HE.out HO2.out HE5.out HO4.out
  · have m0 : decide (0 < (m : Int)) = true := decide_eq_true (by omega)
    have m0' : 0 < (m : Int) := by omega
    have hv := HV.out
    obtain ⟨l, hl⟩ : ∃ l, m - 1 = l := ⟨_, rfl⟩
    obtain ⟨b, o, hsl, -, hcl⟩ := id hrv
    obtain ⟨ha, hc1, hc2⟩ := hsl.eq (by omega)
    have clast := hcl l _ (verV_at (by omega))
    obtain ⟨z, hz⟩ : ∃ z, f + l = z := ⟨_, rfl⟩
    rw [hz] at clast
    have hlm : (l : Int) < (m : Int) := by omega
    have hwl : IntKind.i64.wrap ((m : Int) - 1) = (l : Int) := by rw [IntKind.wrap_i64]; omega
    have g2 : decide ((v : Int) ≤ (z : Int)) = false := decide_eq_false (by omega)
    have g2' : ¬ (v : Int) ≤ (z : Int) := by omega
    have hwz : IntKind.u64.wrap ((z : Int) + 1) = (z : Int) + 1 := by rw [IntKind.wrap_u64]; omega
    have g3 : decide ((z : Int) + 1 < (v : Int)) = false := decide_eq_false (by omega)
    have g3' : ¬ (z : Int) + 1 < (v : Int) := by omega
    have c1' := c1
    rw [ha] at c1'
    have HA := Lib.hid ha
    have H0 := Lib.hid h0
    have HRVw := Lib.hid hrv
    have HRNw := Lib.hid hrn
    have HC1 := Lib.hid c1
    clear hsl hcl ha hrv hrn hl hz h0 c1 hv
    go_enter Try.func41, Try.ntmps41
    go_wp2_with fail
    go_quiet (fail)
    have hW0 : Ext w (w.drewN nq) := (Ext.refl w).drewN nq
    have hrv := (HRVw.out.agree (hW0.agree (F := fun b => b < w.heap.size ∧ P < b) fun i hi => hi.1)).mono (G := fun b => b < (w.drewN nq).heap.size ∧ P < b) fun i hi => hi
    have hrn := (HRNw.out.agree (hW0.agree (F := fun b => b < w.heap.size ∧ P < b) fun i hi => hi.1)).mono (G := fun b => b < (w.drewN nq).heap.size ∧ P < b) fun i hi => hi
    have HRV := Lib.hid hrv
    have HRN := Lib.hid hrn
    have HW0 := Lib.hid hW0
    have d0 : (w.drewN nq).cell? ⟨P, 0, none⟩ = some (.int .i64 keep) := c0
    have d1 : (w.drewN nq).cell? ⟨P, 1, none⟩ = some (.slice sv.a m sv.c) := HC1.out
    have d2 : (w.drewN nq).cell? ⟨P, 2, none⟩ = some (.slice sn.a m sn.c) := c2
    have df : ∀ o, (w.drewN nq).frozen? ⟨P, o, none⟩ = false := cf
    have hPl' : P < (w.drewN nq).heap.size := hPl
    clear hrv hrn hW0 c0 c1' c2 cf hPl clast
    generalize w.drewN nq = W0 at *
    have c0 := d0
    have c1 := d1
    have c2 := d2
    have cf := df
    have hPl := hPl'
    clear d0 d1 d2 df hPl'
    go_wp2_with (first
        | (have hmark := HO3; at_builtin; refine wpList_append_x _ rfl _ _ 62 rfl (w2.setCell ⟨P, 1, none⟩ (.slice s2.a (m + 1) s2.c)).heap.size 3 ii (.int .i64 0) 1 8 Try.underlying62 hii hi0 hi1 hi2 rfl (by decide) s3 m (numV ns) rfl (HO3.out.alloc _) (fun _ => True) ⟨some ⟨w3.heap.size, 0, none⟩, 1⟩ 1 [.int .i64 k] rfl (Rd.one _ _ _) (by simp [Value.oneCell']) h63 (by omega) (by have := HSZ_w3; simp at this ⊢; omega) ?_; intro s4 w5 ho hw hs; have HO4 := Lib.hid ho; have HW4 := Lib.hid hw; clear ho hw hs; have hE5 := two_ext HW3.out HO3.out HW4.out; have r0 := (hE5.cell (o := 0) hPl3).trans q0; have r1 := (hE5.cell (o := 1) hPl3).trans q1; have r2 := (hE5.cell (o := 2) hPl3).trans q2; have fz5 := fun o => (hE5.frozen (o := o) hPl3).trans (cf3 o); have HE5 := Lib.hid hE5; clear hE5)
        | (have hmark2 := HO2; at_builtin; refine wpList_append_x _ rfl _ _ 62 rfl (w2.setCell ⟨P, 1, none⟩ (.slice s2.a (m + 1) s2.c)).heap.size 3 ii (.int .i64 0) 1 8 Try.underlying62 hii hi0 hi1 hi2 rfl (by decide) Sl.none 0 [] rfl (World.ownsRow_nil _ _ _ _) (fun b => b < (w2.setCell ⟨P, 1, none⟩ (.slice s2.a (m + 1) s2.c)).heap.size ∧ P < b) sn m (numV ns) rfl HRN3.out (numV_one ns) (by omega) (by omega) (Nat.le_refl _) ?_; intro s3 w3 ho hw hs; simp only [Nat.zero_add, List.nil_append] at ho ⊢; have HO3 := Lib.hid ho; have HW3 := Lib.hid (show Wr (w2.setCell ⟨P, 1, none⟩ (.slice s2.a (m + 1) s2.c)) w3 none from hw); clear ho hw hs; have HSZ_w3 : (w2.setCell ⟨P, 1, none⟩ (.slice s2.a (m + 1) s2.c)).heap.size ≤ w3.heap.size := HW3.out.grown.size)
        | (have hmark := HO1; at_builtin; refine wpList_append_x _ rfl _ _ 64 rfl W0.heap.size 22 iu (.int .u64 0) 1 8 Try.underlying64 hiu hu0 hu1 hu2 rfl (by decide) s1 m (verV f m) rfl (HO1.out.alloc _) (fun _ => True) ⟨some ⟨w1.heap.size, 0, none⟩, 1⟩ 1 [.int .u64 v] rfl (Rd.one _ _ _) (by simp [Value.oneCell']) h63 (by omega) (by have := HSZ_w1; simp; omega) ?_; intro s2 w2 ho hw hs; have HO2 := Lib.hid ho; have HW2 := Lib.hid hw; clear ho hw hs; have hE := two_ext HW1.out HO1.out HW2.out; have p0 := (hE.cell (o := 0) hPl).trans c0; have p1 := (hE.cell (o := 1) hPl).trans c1; have p2 := (hE.cell (o := 2) hPl).trans c2; have fz := fun o => (hE.frozen (o := o) hPl).trans (cf o); have q0 := (World.cell?_setCell_other w2 ⟨P, 1, none⟩ ⟨P, 0, none⟩ (.slice s2.a (m + 1) s2.c) (by simp)).trans p0; have q1 := World.cell?_setCell_same w2 ⟨P, 1, none⟩ (.slice s2.a (m + 1) s2.c) p1; have q2 := (World.cell?_setCell_other w2 ⟨P, 1, none⟩ ⟨P, 2, none⟩ (.slice s2.a (m + 1) s2.c) (by simp)).trans p2; have hPl3 : P < (w2.setCell ⟨P, 1, none⟩ (.slice s2.a (m + 1) s2.c)).heap.size := (by simpa using Nat.lt_of_lt_of_le hPl hE.size); have HRN3 := Lib.hid (rd_set3 HRN.out hE (p := ⟨P, 1, none⟩) rfl (.slice s2.a (m + 1) s2.c)); have cf3 : ∀ o, (w2.setCell ⟨P, 1, none⟩ (.slice s2.a (m + 1) s2.c)).frozen? ⟨P, o, none⟩ = false := (fun o => by rw [World.frozen?_setCell]; exact fz o); have HE := Lib.hid hE; clear hE)
        | (at_builtin; refine wpList_append_x _ rfl _ _ 64 rfl W0.heap.size 22 iu (.int .u64 0) 1 8 Try.underlying64 hiu hu0 hu1 hu2 rfl (by decide) Sl.none 0 [] rfl (World.ownsRow_nil _ _ _ _) (fun b => b < W0.heap.size ∧ P < b) sv m (verV f m) rfl HRV.out (verV_one f m) (by omega) (by omega) (Nat.le_refl _) ?_; intro s1 w1 ho hw hs; simp only [Nat.zero_add, List.nil_append] at ho ⊢; have HO1 := Lib.hid ho; have HW1 := Lib.hid (show Wr W0 w1 none from hw); clear ho hw hs; have HSZ_w1 : W0.heap.size ≤ w1.heap.size := HW1.out.grown.size))
    go_ret
    exact put19_end HH.out HM.out HV.out hfew hvm HW0.out HE.out HO2.out HE5.out HO4.out
end Go.Proofs.Ytpapoalgocmlaaa
namespace Go.Proofs.Ytpapoalgocmlaaa
open Go.RowKit
set_option linter.unusedVariables false
set_option linter.unusedSimpArgs false
def rootP (a b c d : Nat) : Nat → Option Addr
  | 1 => some ⟨a, 0, none⟩
  | 2 => some ⟨b, 0, none⟩
  | 3 => some ⟨c, 0, none⟩
  | 4 => some ⟨d, 0, none⟩
  | _ => none
theorem rootP_row (a b c d k : Nat) (hk : k < 5) : (rowT a b c d)[k]? = some (.pointer (rootP a b c d k)) := by
  match k, hk with
  | 0, _ => rfl
  | 1, _ => rfl
  | 2, _ => rfl
  | 3, _ => rfl
  | 4, _ => rfl
theorem rootP_inj {a b c d k l : Nat} (hk : k < 5) (hl : l < 5) (h1 : a < b) (h2 : b < c) (h3 : c < d) (h : rootP a b c d k = rootP a b c d l) : k = l := by
  match k, hk, l, hl with
  | 0, _, 0, _ | 1, _, 1, _ | 2, _, 2, _ | 3, _, 3, _ | 4, _, 4, _ => rfl
  | 0, _, 1, _ | 0, _, 2, _ | 0, _, 3, _ | 0, _, 4, _ | 1, _, 0, _ | 2, _, 0, _ | 3, _, 0, _ | 4, _, 0, _ => simp [rootP] at h
  | 1, _, 2, _ | 1, _, 3, _ | 1, _, 4, _ | 2, _, 1, _ | 2, _, 3, _ | 2, _, 4, _ | 3, _, 1, _ | 3, _, 2, _ | 3, _, 4, _ | 4, _, 1, _ | 4, _, 2, _ | 4, _, 3, _ => simp [rootP] at h <;> omega
def psOf (a b c d : Nat) (ns : List Nat) : List (Option Addr) := ns.map (rootP a b c d)
theorem psOf_at {a b c d i : Nat} {ns : List Nat} (h : i < ns.length) : (psOf a b c d ns).getD i none = rootP a b c d (ns.getD i 0) := by
  simp [psOf, h]
theorem runAt_ns {a b c d g k s : Nat} {ns : List Nat} (hn : ∀ k ∈ ns, k < 5) (h1 : a < b) (h2 : b < c) (h3 : c < d) (hk : k < ns.length) (h : RunAt (fun i => ns.getD i 0) g k s) : RunAt (fun i => (psOf a b c d ns).getD i none) g k s := by
  obtain ⟨e1, e2, e3, e4⟩ := h
  have hin : ∀ i, i < ns.length → ns.getD i 0 < 5 := fun i hi => by
    rw [List.getD_eq_getElem?_getD, List.getElem?_eq_getElem hi]; exact hn _ (List.getElem_mem _)
  refine ⟨e1, e2, fun i i1 i2 => ?_, e4.imp id fun h => ?_⟩
  · show (psOf a b c d ns).getD i none = (psOf a b c d ns).getD k none
    rw [psOf_at (by omega), psOf_at hk, show ns.getD i 0 = ns.getD k 0 from e3 i i1 i2]
  · show (psOf a b c d ns).getD (s - 1) none ≠ (psOf a b c d ns).getD k none
    rw [psOf_at (by omega), psOf_at hk]
    intro e
    exact h (rootP_inj (hin _ (by omega)) (hin _ hk) h1 h2 h3 e)
theorem root_any (w : World) (p : Option Addr) : Calls Try.prog 66 #[.agg #[.pointer p]] w fun e w' => e = .returned (.pointer p) ∧ Ext w w' := by
  go_enter Try.func66, Try.ntmps66
  go_wp2_with fail
  go_ret
  exact ⟨rfl, (Ext.refl w).alloc _ _⟩
set_option maxRecDepth 100000 in
set_option maxHeartbeats 4000000 in
theorem asks_any {w : World} {L R keep f P T a b c d : Nat} {ns : List Nat} {sv sn : Sl} (hl : LogAt w L R keep f ((psOf a b c d ns).map .pointer)) (hr : RefL w P keep f ns sv sn) (hT : Blk w T 30 (rowT a b c d).toArray)
    (hn : ∀ k ∈ ns, k < 5) (hle : ∀ q ∈ psOf a b c d ns, Leads w q) (h1 : a < b) (h2 : b < c) (h3 : c < d) (v : Nat) (hv : v < 18446744073709551616) :
    Calls Try.prog 42 #[logV L, .pointer (some ⟨P, 0, none⟩), .slice (some ⟨T, 0, none⟩) 5 5, .int .u64 v] w fun e w' => e = .returned (.bool true) ∧ Below w.heap.size w w' := by
  have hpl : (psOf a b c d ns).length = ns.length := by simp [psOf]
  have HLW := Lib.hid hl
  have HRW := Lib.hid hr
  have HTW := Lib.hid hT
  have HN := Lib.hid hn
  have HLE := Lib.hid hle
  have hat := at_log hl v hv
  have HPL := Lib.hid hpl
  clear hl hr hT hn hle hpl
  go_enter Try.func42, Try.ntmps42
  go_wp2_with fail
  refine hat.mono ?_
  rintro e w1 ⟨⟨hk, rfl⟩ | ⟨x, hx, rfl⟩, hx1⟩
  · rw [List.length_map, HPL.out] at hk
    have HK := Lib.hid hk
    clear hk hat
    go_wp2_with fail
    have hx2 : Ext w (w1.alloc (.cells #[.pointer none] 30)) := hx1.alloc _ _
    have hb2 := Blk.new w1 30 #[.pointer none]
    generalize w1.alloc (.cells #[.pointer none] 30) = w2 at *
    have HX2 := Lib.hid hx2
    have HB2 := Lib.hid hb2
    clear hx1 hx2 hb2
    refine (since_log (HLW.out.ext HX2.out) (fun q hq => (HLE.out q hq).ext HX2.out) v hv).mono ?_
    rintro e w3 ⟨⟨-, rfl⟩ | ⟨hk', -⟩, hx3⟩
    rotate_left
    · rw [HPL.out] at hk'; exact absurd hk' HK.out
    have c9 : w3.cell? ⟨w1.heap.size, 0, none⟩ = some (.pointer none) := (hx3.cell (p := ⟨w1.heap.size, 0, none⟩) HB2.out.lt).trans (HB2.out.cell 0)
    have hl9 : w1.heap.size < w3.heap.size := Nat.lt_of_lt_of_le HB2.out.lt hx3.size
    have HX3 := Lib.hid hx3
    clear hx3
    go_wp2_with fail
    refine (at19 ((HRW.out.ext HX2.out).below HX3.out) v).mono ?_
    rintro e w4 ⟨⟨-, rfl⟩ | ⟨hk', -⟩, hx4⟩
    rotate_left
    · exact absurd hk' HK.out
    have c94 := (hx4.cell (o := 0) hl9).trans c9
    have HX4 := Lib.hid hx4
    clear hx4 c9
    go_wp2_with fail
    refine (root_any w4 none).mono ?_
    rintro e w5 ⟨rfl, hx5⟩
    have HX5 := Lib.hid hx5
    clear hx5
    go_wp2_with fail
    go_ret
    exact ⟨rfl, (HX2.out.below.trans (HX3.out.mono HX2.out.size)).trans ((HX4.out.trans HX5.out).below.mono (Nat.le_trans HX2.out.size HX3.out.size))⟩
  · obtain ⟨k1, k2, k3, k4⟩ := hx
    rw [List.length_map, HPL.out] at k2 k3
    obtain ⟨j, hj⟩ : ∃ j, v - f = j := ⟨_, rfl⟩
    have hjx : rootP a b c d (ns.getD j 0) = x := by
      rw [hj, List.getElem?_map] at k4
      rw [← psOf_at (by omega)]
      cases hg : (psOf a b c d ns)[j]? with
      | none => rw [hg] at k4; cases k4
      | some q => rw [hg] at k4; simp at k4; rw [List.getD_eq_getElem?_getD, hg]; exact k4
    obtain ⟨n, hnj⟩ : ∃ n, ns.getD j 0 = n := ⟨_, rfl⟩
    have hn5 : n < 5 := by
      rw [← hnj, List.getD_eq_getElem?_getD, List.getElem?_eq_getElem (by omega : j < ns.length)]; exact HN.out _ (List.getElem_mem _)
    rw [hnj] at hjx
    have HK := Lib.hid (show f ≤ v ∧ v - f < ns.length ∧ ns.length ≤ v - f + keep from ⟨k1, k2, k3⟩)
    have HJ := Lib.hid hj
    have HNJ := Lib.hid hnj
    have HJX := Lib.hid hjx
    clear hat k1 k2 k3 k4 hj hnj hjx
    go_wp2_with fail
    have hx2 : Ext w (w1.alloc (.cells #[.pointer x] 30)) := hx1.alloc _ _
    have hb2 := Blk.new w1 30 #[.pointer x]
    generalize w1.alloc (.cells #[.pointer x] 30) = w2 at *
    have HX2 := Lib.hid hx2
    have HB2 := Lib.hid hb2
    clear hx1 hx2 hb2
    refine (since_log (HLW.out.ext HX2.out) (fun q hq => (HLE.out q hq).ext HX2.out) v hv).mono ?_
    rintro e w3 ⟨⟨hk', -⟩ | ⟨-, s, rfl, hrun⟩, hx3⟩
    · rw [HPL.out] at hk'; exact absurd HK.out hk'
    rw [HJ.out] at hrun
    obtain ⟨y, hy⟩ : ∃ y, f + s = y := ⟨_, rfl⟩
    rw [hy]
    have HY := Lib.hid hy
    clear hy
    have hr3 := (HRW.out.ext HX2.out).below hx3
    have hT3 : Blk w3 T 30 (rowT a b c d).toArray := (HTW.out.ext HX2.out).agree (Agree.of_below hx3 (F := Lt w2.heap.size) fun _ h => h) (HTW.out.ext HX2.out).lt
    have c9 : w3.cell? ⟨w1.heap.size, 0, none⟩ = some (.pointer x) := (hx3.cell (p := ⟨w1.heap.size, 0, none⟩) HB2.out.lt).trans (HB2.out.cell 0)
    have hl9 : w1.heap.size < w3.heap.size := Nat.lt_of_lt_of_le HB2.out.lt hx3.size
    have HX3 := Lib.hid hx3
    have HR3 := Lib.hid hr3
    have HT3 := Lib.hid hT3
    have HRUN := Lib.hid hrun
    clear hx3 hr3 hT3 hrun
    have hjl : j < ns.length := by have h1 := HK.out; have h2 := HJ.out; omega
    have hsl : s ≤ j := HRUN.out.2.1
    go_wp2_with fail
    refine (at19 HR3.out v).mono ?_
    rintro e w4 ⟨⟨hk', -⟩ | ⟨-, rfl⟩, hx4⟩
    · exact absurd HK.out hk'
    rw [HJ.out]
    have hr4 := HR3.out.ext hx4
    have z0 := (hx4.cell (o := 0) hl9).trans c9
    have l0 : w1.heap.size < w4.heap.size := Nat.lt_of_lt_of_le hl9 hx4.size
    obtain ⟨-, z1, z2⟩ := hr4.blk.c3
    obtain ⟨bv, ov, hs1, -, hc1⟩ := id hr4.rv
    obtain ⟨bn, on, hs2, -, hc2⟩ := id hr4.rn
    obtain ⟨ha1, -, -⟩ := hs1.eq (by omega)
    obtain ⟨ha2, -, -⟩ := hs2.eq (by omega)
    have l1 := hr4.blk.lt
    have l2 : bv < w4.heap.size := (hs1.fits (by omega)).1
    have l3 : bn < w4.heap.size := (hs2.fits (by omega)).1
    have z3 := hc1 s _ (verV_at (by omega))
    have z4 := hc2 j _ (numV_at hjl)
    rw [HNJ.out] at z4
    have hT4 := HT3.out.ext hx4
    have z5 : w4.cell? ⟨T, n, none⟩ = some (.pointer x) := by
      rw [hT4.cell]; simpa [HJX.out] using rootP_row a b c d n hn5
    have l4 := hT4.lt
    rw [ha1] at z1
    rw [ha2] at z2
    obtain ⟨m, hm⟩ : ∃ m, ns.length = m := ⟨_, rfl⟩
    have hsi : ∀ W, Ext w4 W → Calls Try.prog 98 #[.pointer (some ⟨P, 0, none⟩), .int .u64 v] W fun e w' => e = .returned (.int .i64 s) ∧ Ext W w' := fun W hW =>
      (since19 (hr4.ext hW) v HK.out).mono fun e w' ⟨⟨s', h1', h2'⟩, h3'⟩ => by
        rw [HJ.out] at h2'
        have hu := runAt_ns HN.out h1 h2 h3 hjl h2'
        have e1 : gone keep (psOf a b c d ns) = ns.length - min ns.length keep := by unfold gone; rw [HPL.out]
        have := HRUN.out
        rw [e1] at this
        exact ⟨by rw [h1', RunAt.unique hu this], h3'⟩
    have HSI := Lib.hid hsi
    have HX4 := Lib.hid hx4
    rw [hm] at z1 z2 hjl
    rw [HY.out] at z3
    have b1 : (j : Int) < (m : Int) := by omega
    have b2 : (n : Int) < 5 := by omega
    have b3 : (s : Int) < (m : Int) := by omega
    have b4 : decide ((j : Int) < 0) = false := decide_eq_false (by omega)
    clear hx4 hr4 hs1 hc1 hs2 hc2 ha1 ha2 hT4 hsi hm c9 hl9
    go_wp2_with fail
    go_region_held3 (fun w' => w'.cell? ⟨w1.heap.size, 0, none⟩ = some (.pointer x) ∧ w'.cell? ⟨P, 1, none⟩ = some (.slice (some ⟨bv, ov, none⟩) m sv.c) ∧ w'.cell? ⟨P, 2, none⟩ = some (.slice (some ⟨bn, on, none⟩) m sn.c) ∧ w'.cell? ⟨bv, ov + s, none⟩ = some (.int .u64 (y : Nat)) ∧ w'.cell? ⟨bn, on + j, none⟩ = some (.int .i64 (n : Nat)) ∧ w'.cell? ⟨T, n, none⟩ = some (.pointer x)) (go_keep)
      (first
        | (go_at_call 98; refine (HSI.out _ ((Ext.refl w4).drew.trans hx5)).mono ?_; rintro e w6 ⟨rfl, hx6⟩; have z0 := (hx6.cell (o := 0) l0).trans z0; have z1 := (hx6.cell (o := 1) l1).trans z1; have z2 := (hx6.cell (o := 2) l1).trans z2; have z3 := (hx6.cell (o := ov + s) l2).trans z3; have z4 := (hx6.cell (o := on + j) l3).trans z4; have z5 := (hx6.cell (o := n) l4).trans z5)
        | (go_at_call 35; refine (is_same _ x).mono ?_; rintro e w5 ⟨rfl, hx5⟩; have z0 := (hx5.cell (o := 0) l0).trans z0; have z1 := (hx5.cell (o := 1) l1).trans z1; have z2 := (hx5.cell (o := 2) l1).trans z2; have z3 := (hx5.cell (o := ov + s) l2).trans z3; have z4 := (hx5.cell (o := on + j) l3).trans z4; have z5 := (hx5.cell (o := n) l4).trans z5; have l0 := Nat.lt_of_lt_of_le l0 hx5.size; have l1 := Nat.lt_of_lt_of_le l1 hx5.size; have l2 := Nat.lt_of_lt_of_le l2 hx5.size; have l3 := Nat.lt_of_lt_of_le l3 hx5.size; have l4 := Nat.lt_of_lt_of_le l4 hx5.size))
    go_wp2_with fail
    go_ret
    exact ⟨rfl, (HX2.out.below.trans (HX3.out.mono HX2.out.size)).trans ((HX4.out.trans (((Ext.refl w4).drew.trans hx5).trans hx6)).below.mono (Nat.le_trans HX2.out.size HX3.out.size))⟩
end Go.Proofs.Ytpapoalgocmlaaa
namespace Go.Proofs.Ytpapoalgocmlaaa
open Go.RowKit Go.Shelf
set_option linter.unusedVariables false
theorem wpIn_range_boxed {F : Fence} {n : Nat} {P : Program} {α : Type} {g : Operand} {ps : Array Tmp} {assign body : Code} {Q : Exit → Act → World → Prop} {a : Act} {w : World}
    (hro : F.round = none) (h1 : 1 ≤ n) {gf : Nat} {lb : Array Value} (hg : a.eval g = .func (.func gf) #[] lb) (hFg : F.fn gf) (eg : ∀ args w, (callFunc gf args).run P w = .ok (.enter gf args) w)
    {encs : α → Array Value} {Kp : World → World → Prop} {S Sp : List α → Prop} {N : Nat} {w0 : World} (hseq : SeqStopsK F (n - 1) P gf lb encs Kp S Sp N w0)
    (hKt : ∀ {A B C : World}, Kp A B → Kp B C → Kp A C) (hKb : ∀ (W : World) (l : Nat) (o o' : Obj), w.heap.size ≤ l → W.heap[l]? = some o → o.isCells = false → o.isWalk = false → Kp W (W.putObj l o')) (hb0 : Below w0.heap.size w0 w) (hps : ∀ x, (encs x).size = ps.size)
    (I : List α → World → Prop) (Ix : Code → List α → World → Prop) (hI : OwnFrom w.heap.size I) (hIx : ∀ c, OwnFrom w.heap.size (Ix c)) (h0 : I [] w) (t : TypeId) (vb : α → Value) (mk : Array Value → α → Nat → Array Value)
    (hassign : ∀ (l : Nat) (pre : List α) (x : α) (W : World) (K : Act → World → Prop), I pre W → (∀ Bx W', w.heap.size ≤ Bx → KeepsFrom w.heap.size W W' → Kp W W' → I pre W' → Blk W' Bx t #[vb x] → K { tmps := mk a.tmps x Bx, defers := [] } W') →
      assign.wpIn (F.inRound l) (n - 1 - 1) P (Exit.then K (fun _ _ _ => False)) { tmps := (ps.zip (encs x)).foldl (fun t (p, v) => t.setIfInBounds p v) a.tmps, defers := [] } W)
    (hbody : ∀ (l : Nat) (pre : List α) (x : α) (Bx : Nat) (W : World), w.heap.size ≤ Bx → Blk W Bx t #[vb x] → I pre W → pre.length < N → body.wpIn (F.inRound l) (n - 1 - 1) P (ownPostG w.heap.size Kp I Ix (pre ++ [x]) W) { tmps := mk a.tmps x Bx, defers := [] } W)
    (hdone : ∀ (D : Nat) (xs : List α) (W : World), w.heap.size ≤ D → S xs → I xs W → W.heap[D]? = some (.deferred (some [])) → Q .normal { a with defers := { target := .collected D, args := #[] } :: a.defers } W)
    (hstop : ∀ (D : Nat) (c : Code) (pre : List α) (W : World), w.heap.size ≤ D → Sp pre → Ix c pre W → W.heap[D]? = some (.deferred (some [])) → c.wpIn F n P Q { a with defers := { target := .collected D, args := #[] } :: a.defers } W) :
    (Code.rangeFunc g ps assign body).wpIn F n P Q a w :=
  wpIn_rangeFunc_ownH hro h1 hg hFg eg hseq hKt hKb hb0 hps I Ix hI hIx h0 (fun x a' W => ∃ Bx, w.heap.size ≤ Bx ∧ Blk W Bx t #[vb x] ∧ a' = { tmps := mk a.tmps x Bx, defers := [] })
    (fun x a' s A C row hs hg hr => by
      obtain ⟨Bx, h1, h2, h3⟩ := hs
      exact ⟨Bx, h1, boxed_own Bx t (fun (_ : Unit) => vb x) () A C row h2 hg (fun r e => (hr r e).2), h3⟩)
    (fun l pre x W K hi hK => hassign l pre x W K hi (fun Bx W' hb k1 k2 k3 k4 => hK _ W' k1 k2 k3 ⟨Bx, hb, k4, rfl⟩))
    (fun l pre x a' W hl hr hi hax hlt => by
      obtain ⟨Bx, h1, h2, rfl⟩ := hax
      exact hbody l pre x Bx W h1 h2 hi hlt)
    hdone hstop
end Go.Proofs.Ytpapoalgocmlaaa
namespace Go.Proofs.Ytpapoalgocmlaaa
open Go.RowKit
set_option linter.unusedVariables false
def pairL {α : Type} (l r : List α) : List (List α) :=
  if 4 < l.length then [l.take (l.length - 1), l.drop (l.length - 1) ++ r] else if 4 < r.length then [l ++ r.take 1, r.drop 1] else [l ++ r]
theorem pairL_flat {α : Type} (l r : List α) : (pairL l r).flatten = l ++ r := by
  unfold pairL
  split
  · simp [← List.append_assoc]
  · split
    · simp only [List.flatten_cons, List.flatten_nil, List.append_nil, List.append_assoc, List.take_append_drop]
    · simp
theorem pairL_len {α : Type} (l r : List α) : (pairL l r).length = 1 ∨ (pairL l r).length = 2 := by
  unfold pairL
  split
  · simp
  · split <;> simp
theorem pairL_ok {α : Type} {l r : List α} (h : (l.length = 3 ∧ 4 ≤ r.length ∧ r.length ≤ 8) ∨ (4 ≤ l.length ∧ l.length ≤ 8 ∧ r.length = 3)) : ∀ x ∈ pairL l r, 4 ≤ x.length ∧ x.length ≤ 8 := by
  unfold pairL
  intro x hx
  split at hx
  · simp only [List.mem_cons, List.not_mem_nil, or_false] at hx
    rcases hx with rfl | rfl
    · rw [List.length_take]; omega
    · rw [List.length_append, List.length_drop]; omega
  · split at hx
    · simp only [List.mem_cons, List.not_mem_nil, or_false] at hx
      rcases hx with rfl | rfl
      · rw [List.length_append, List.length_take]; omega
      · rw [List.length_drop]; omega
    · simp only [List.mem_cons, List.not_mem_nil, or_false] at hx
      subst hx
      rw [List.length_append]; omega
theorem pairL_mem {α : Type} {l r : List α} {x : List α} (hx : x ∈ pairL l r) {a : α} (ha : a ∈ x) : a ∈ l ∨ a ∈ r := by
  have : a ∈ (pairL l r).flatten := List.mem_flatten.2 ⟨x, hx, ha⟩
  rw [pairL_flat] at this
  exact List.mem_append.1 this
def PairR (B : Nat) : (h : Nat) → PT h → PT h → List (PT h) → Prop
  | 0, l, r, ts => ts.map Prod.snd = pairL l.2 r.2 ∧ ∀ u ∈ ts, B ≤ u.1
  | _ + 1, l, r, ts => ts.map Prod.snd = pairL l.2 r.2 ∧ ∀ u ∈ ts, B ≤ u.1
theorem PairR.mono {A B : Nat} (hAB : A ≤ B) : ∀ {h : Nat} {l r : PT h} {ts : List (PT h)}, PairR B h l r ts → PairR A h l r ts
  | 0, _, _, _, ⟨h1, h2⟩ => ⟨h1, fun u hu => Nat.le_trans hAB (h2 u hu)⟩
  | _ + 1, _, _, _, ⟨h1, h2⟩ => ⟨h1, fun u hu => Nat.le_trans hAB (h2 u hu)⟩
theorem PairR.ents {B : Nat} : ∀ {h : Nat} {l r : PT h} {ts : List (PT h)}, PairR B h l r ts → ts.flatMap (Proofs.Ytpapoalgocmlaaa.ents h) = ents h l ++ ents h r
  | 0, l, r, ts, ⟨h1, _⟩ => by rw [flat_snd0, h1, pairL_flat]; rfl
  | h + 1, l, r, ts, ⟨h1, _⟩ => by
    rw [flat_snd, h1, pairL_flat]
    show (l.2 ++ r.2).flatMap _ = _
    rw [List.flatMap_append]; rfl
theorem map_len {α β : Type} {ts : List (β × α)} {L : List α} (h : ts.map Prod.snd = L) (hL : L.length = 1 ∨ L.length = 2) : ts.length = 1 ∨ ts.length = 2 := by
  subst h
  rwa [List.length_map] at hL
theorem PairR.len {B : Nat} : ∀ {h : Nat} {l r : PT h} {ts : List (PT h)}, PairR B h l r ts → ts.length = 1 ∨ ts.length = 2
  | 0, l, r, ts, ⟨h1, _⟩ => map_len h1 (pairL_len (α := Ent) _ _)
  | n + 1, l, r, ts, ⟨h1, _⟩ => map_len h1 (pairL_len (α := PT n) _ _)
theorem PairR.ok {B : Nat} : ∀ {h : Nat} {l r : PT h} {ts : List (PT h)}, PairR B h l r ts → OkT h l → OkT h r → (size h l = 3 ∧ 4 ≤ size h r) ∨ (4 ≤ size h l ∧ size h r = 3) → ∀ u ∈ ts, OkT h u ∧ 4 ≤ size h u
  | 0, l, r, ts, ⟨h1, _⟩, hl, hr, hs, u, hu => by
    have hm : u.2 ∈ pairL l.2 r.2 := by rw [← h1]; exact List.mem_map_of_mem hu
    have hl : l.2.length ≤ 8 := hl
    have hr : r.2.length ≤ 8 := hr
    have hs : (l.2.length = 3 ∧ 4 ≤ r.2.length) ∨ (4 ≤ l.2.length ∧ r.2.length = 3) := hs
    have := pairL_ok (by omega) _ hm
    exact ⟨this.2, this.1⟩
  | h + 1, l, r, ts, ⟨h1, _⟩, hl, hr, hs, u, hu => by
    have hm : u.2 ∈ pairL l.2 r.2 := by rw [← h1]; exact List.mem_map_of_mem hu
    have l8 : l.2.length ≤ 8 := hl.2.1
    have r8 : r.2.length ≤ 8 := hr.2.1
    have hs : (l.2.length = 3 ∧ 4 ≤ r.2.length) ∨ (4 ≤ l.2.length ∧ r.2.length = 3) := hs
    have := pairL_ok (by omega) _ hm
    refine ⟨⟨by omega, this.2, fun x hx => ?_⟩, this.1⟩
    rcases pairL_mem hm hx with hx | hx
    · exact hl.2.2 x hx
    · exact hr.2.2 x hx
def Mend (B h : Nat) (ks : List (PT h)) (i : Nat) (ks' : List (PT h)) : Prop :=
  ∃ l r ts, ks[i - 1]? = some l ∧ ks[i - 1 + 1]? = some r ∧ PairR B h l r ts ∧ ks' = ks.take (i - 1) ++ ts ++ ks.drop (i - 1 + 2)
def DelK (B : Nat) (k : ByteArray) (h : Nat) (R : PT h → PT h → Prop) (ks ks' : List (PT h)) : Prop :=
  ∃ kid kid', ks[whichK h ks k]? = some kid ∧ R kid kid' ∧
    ((4 ≤ size h kid' ∧ ks' = ks.set (whichK h ks k) kid') ∨ (size h kid' < 4 ∧ Mend B h (ks.set (whichK h ks k) kid') (whichK h ks k) ks'))
def DelR (B : Nat) (k : ByteArray) : (h : Nat) → PT h → PT h → Prop
  | 0, t, u => u.2 = delE t.2 k ∧ B ≤ u.1
  | h + 1, t, u => DelK B k h (DelR B k h) t.2 u.2 ∧ B ≤ u.1
theorem Mend.mono {A B : Nat} (hAB : A ≤ B) {h : Nat} {ks ks' : List (PT h)} {i : Nat} (hm : Mend B h ks i ks') : Mend A h ks i ks' := by
  obtain ⟨l, r, ts, h1, h2, h3, h4⟩ := hm
  exact ⟨l, r, ts, h1, h2, h3.mono hAB, h4⟩
theorem DelK.mono {A B : Nat} (hAB : A ≤ B) {k : ByteArray} {h : Nat} {R S : PT h → PT h → Prop} (hRS : ∀ x y, R x y → S x y) {ks ks' : List (PT h)} (hd : DelK B k h R ks ks') : DelK A k h S ks ks' := by
  obtain ⟨kid, kid', h1, h2, h3⟩ := hd
  exact ⟨kid, kid', h1, hRS _ _ h2, h3.imp_right fun ⟨a, b⟩ => ⟨a, b.mono hAB⟩⟩
theorem DelR.mono {A B : Nat} (hAB : A ≤ B) {k : ByteArray} : ∀ {h : Nat} {t u : PT h}, DelR B k h t u → DelR A k h t u
  | 0, _, _, ⟨h1, h2⟩ => ⟨h1, Nat.le_trans hAB h2⟩
  | _ + 1, _, _, ⟨h1, h2⟩ => ⟨h1.mono hAB fun _ _ hr => hr.mono hAB, Nat.le_trans hAB h2⟩
theorem set_mid {α : Type} {l : List α} {i : Nat} {x y : α} (h : l[i]? = some x) : l.set i y = l.take i ++ y :: l.drop (i + 1) := by
  rw [List.set_eq_take_append_cons_drop, if_pos (List.getElem?_eq_some_iff.1 h).1]
theorem two_mid {α : Type} {l : List α} {i : Nat} {x y : α} (h : l[i]? = some x) (h' : l[i + 1]? = some y) : l = l.take i ++ x :: y :: l.drop (i + 2) := by
  have e1 := take_mid h
  obtain ⟨hi, rfl⟩ := List.getElem?_eq_some_iff.1 h'
  rw [List.drop_eq_getElem_cons hi] at e1
  exact e1
theorem Mend.ents {B h : Nat} {ks ks' : List (PT h)} {i : Nat} (hm : Mend B h ks i ks') : ks'.flatMap (Proofs.Ytpapoalgocmlaaa.ents h) = ks.flatMap (Proofs.Ytpapoalgocmlaaa.ents h) := by
  obtain ⟨l, r, ts, h1, h2, h3, rfl⟩ := hm
  conv => rhs; rw [two_mid h1 h2]
  simp only [List.flatMap_append, List.flatMap_cons, h3.ents, List.append_assoc]
theorem getE_kid {h : Nat} {ks : List (PT h)} {k : ByteArray} {kid : PT h} (hk : ks[whichK h ks k]? = some kid) (hA : ∀ e ∈ (ks.take (whichK h ks k)).flatMap (ents h), klt e.1 k = true) (hC : ∀ e ∈ (ks.drop (whichK h ks k + 1)).flatMap (ents h), klt k e.1 = true) :
    getE (ks.flatMap (ents h)) k = getE (ents h kid) k := by
  conv => lhs; rw [take_mid hk]
  rw [List.flatMap_append, List.flatMap_cons, getE_app hA, getE_stop hC]
theorem DelK.ents {B : Nat} {k : ByteArray} {h : Nat} {R : PT h → PT h → Prop} {ks ks' : List (PT h)} (hd : DelK B k h R ks ks') (hs : Sorted (ks.flatMap (Proofs.Ytpapoalgocmlaaa.ents h))) (hp : ∀ x ∈ ks, 0 < (Proofs.Ytpapoalgocmlaaa.ents h x).length) (hne : 0 < ks.length)
    (hR : ∀ x y, x ∈ ks → R x y → Proofs.Ytpapoalgocmlaaa.ents h y = delE (Proofs.Ytpapoalgocmlaaa.ents h x) k) : ks'.flatMap (Proofs.Ytpapoalgocmlaaa.ents h) = delE (ks.flatMap (Proofs.Ytpapoalgocmlaaa.ents h)) k := by
  obtain ⟨kid, kid', hk, hr, h3⟩ := hd
  obtain ⟨kid2, hk2, hA, hC⟩ := which_split (h := h) (ks := ks) hs hp hne k
  rw [hk] at hk2
  simp only [Option.some.injEq] at hk2
  subst hk2
  have key : (ks.set (whichK h ks k) kid').flatMap (Proofs.Ytpapoalgocmlaaa.ents h) = delE (ks.flatMap (Proofs.Ytpapoalgocmlaaa.ents h)) k := by
    rw [set_mid hk]
    conv => rhs; rw [take_mid hk]
    simp only [List.flatMap_append, List.flatMap_cons]
    rw [hR kid kid' (List.mem_of_getElem? hk) hr, delE_app hA, delE_stop hC]
  rcases h3 with ⟨-, rfl⟩ | ⟨-, hm⟩
  · exact key
  · rw [hm.ents, key]
theorem DelR.ents {B : Nat} {k : ByteArray} : ∀ {h : Nat} {t u : PT h}, DelR B k h t u → OkT h t → Sorted (Proofs.Ytpapoalgocmlaaa.ents h t) → Proofs.Ytpapoalgocmlaaa.ents h u = delE (Proofs.Ytpapoalgocmlaaa.ents h t) k
  | 0, t, u, ⟨h1, _⟩, _, _ => h1
  | h + 1, t, u, ⟨h1, _⟩, ok, hs =>
    h1.ents hs (kids_pos ok) (by have := ok.1; omega) fun x y hx hr => hr.ents (ok.2.2 x hx).1 (kid_sorted hs x hx)
theorem delE_len : ∀ {es : List Ent} {k : ByteArray}, Sorted es → (getE es k).isSome = true → (delE es k).length + 1 = es.length
  | [], _, _, h => by cases h
  | e :: es, k, hs, h => by
    have hs' := List.pairwise_cons.1 hs
    simp only [delE]
    by_cases hk : e.1 = k
    · subst hk
      simp [klt_irrefl]
    · simp only [getE, hk, if_false] at h
      have hlt : klt e.1 k = true := by
        cases hg : getE es k with
        | none => rw [hg] at h; cases h
        | some v =>
          have : ∃ x ∈ es, x.1 = k := by
            clear hs hs' h hk
            induction es with
            | nil => cases hg
            | cons a es ih =>
              simp only [getE] at hg
              by_cases ha : a.1 = k
              · exact ⟨a, List.mem_cons_self .., ha⟩
              · simp only [ha, if_false] at hg
                obtain ⟨x, hx, e⟩ := ih hg
                exact ⟨x, List.mem_cons_of_mem _ hx, e⟩
          obtain ⟨x, hx, rfl⟩ := this
          exact hs'.1 x hx
      simp only [hlt, if_true, List.length_cons]
      rw [delE_len hs'.2 h]
theorem DelK.ok {B : Nat} {k : ByteArray} {h : Nat} {R : PT h → PT h → Prop} {ks ks' : List (PT h)} (hd : DelK B k h R ks ks') (hok : ∀ x ∈ ks, OkT h x ∧ 4 ≤ size h x) (h2 : 2 ≤ ks.length)
    (hR : ∀ x y, x ∈ ks → ks[whichK h ks k]? = some x → R x y → OkT h y ∧ size h x ≤ size h y + 1) : (∀ u ∈ ks', OkT h u ∧ 4 ≤ size h u) ∧ ks'.length ≤ ks.length ∧ ks.length ≤ ks'.length + 1 := by
  obtain ⟨kid, kid', hk, hr, h3⟩ := hd
  have hkm := List.mem_of_getElem? hk
  have hi := (List.getElem?_eq_some_iff.1 hk).1
  obtain ⟨o1, o2⟩ := hR kid kid' hkm hk hr
  have o4 := (hok kid hkm).2
  have hset : ∀ u ∈ ks.set (whichK h ks k) kid', u = kid' ∨ (OkT h u ∧ 4 ≤ size h u) := fun u hu => by
    rcases List.mem_or_eq_of_mem_set hu with hu | hu
    · exact .inr (hok u hu)
    · exact .inl hu
  rcases h3 with ⟨h4, rfl⟩ | ⟨h4, l, r, ts, hl, hr', hp, rfl⟩
  · refine ⟨fun u hu => ?_, by simp, by simp⟩
    rcases hset u hu with rfl | h
    · exact ⟨o1, h4⟩
    · exact h
  · generalize hI : whichK h ks k = i at *
    have hsz : size h kid' = 3 := by omega
    have hget : ∀ j, j ≠ i → ∀ x, (ks.set i kid')[j]? = some x → OkT h x ∧ 4 ≤ size h x := fun j hj x hx => by
      rw [List.getElem?_set_ne (by omega)] at hx
      exact hok x (List.mem_of_getElem? hx)
    have hgi : (ks.set i kid')[i]? = some kid' := by rw [List.getElem?_set_self hi]
    have hpair : OkT h l ∧ OkT h r ∧ ((size h l = 3 ∧ 4 ≤ size h r) ∨ (4 ≤ size h l ∧ size h r = 3)) := by
      by_cases h0 : i = 0
      · subst h0
        rw [hgi] at hl
        simp only [Option.some.injEq] at hl
        subst hl
        have := hget 1 (by omega) r hr'
        exact ⟨o1, this.1, .inl ⟨hsz, this.2⟩⟩
      · rw [show i - 1 + 1 = i from by omega, hgi] at hr'
        simp only [Option.some.injEq] at hr'
        subst hr'
        have := hget (i - 1) (by omega) l hl
        exact ⟨this.1, o1, .inr ⟨this.2, hsz⟩⟩
    have hts := hp.ok hpair.1 hpair.2.1 hpair.2.2
    have hln := hp.len
    refine ⟨fun u hu => ?_, ?_, ?_⟩
    · rcases List.mem_append.1 hu with hu | hu
      · rcases List.mem_append.1 hu with hu | hu
        · obtain ⟨j, hj⟩ := List.getElem?_of_mem hu
          rw [List.getElem?_take] at hj
          split at hj
          · exact hget j (by omega) u hj
          · cases hj
        · exact hts u hu
      · obtain ⟨j, hj⟩ := List.getElem?_of_mem hu
        rw [List.getElem?_drop] at hj
        exact hget _ (by omega) u hj
    · simp only [List.length_append, List.length_take, List.length_drop, List.length_set]; omega
    · simp only [List.length_append, List.length_take, List.length_drop, List.length_set]
      have := (List.getElem?_eq_some_iff.1 hr').1
      rw [List.length_set] at this
      omega
theorem DelR.ok {B : Nat} {k : ByteArray} : ∀ {h : Nat} {t u : PT h}, DelR B k h t u → OkT h t → 4 ≤ size h t → Sorted (Proofs.Ytpapoalgocmlaaa.ents h t) → (getE (Proofs.Ytpapoalgocmlaaa.ents h t) k).isSome = true → OkT h u ∧ size h t ≤ size h u + 1 ∧ size h u ≤ size h t
  | 0, t, u, ⟨h1, _⟩, ok, _, hs, hg => by
    have := delE_len hs hg
    have e : size 0 u = (delE (Proofs.Ytpapoalgocmlaaa.ents 0 t) k).length := by show u.2.length = _; rw [h1]; rfl
    have e2 : (Proofs.Ytpapoalgocmlaaa.ents 0 t).length = size 0 t := rfl
    have ok : size 0 t ≤ 8 := ok
    exact ⟨show size 0 u ≤ 8 by omega, by omega, by omega⟩
  | h + 1, t, u, ⟨h1, _⟩, ok, h4, hs, hg => by
    have h4 : 4 ≤ t.2.length := h4
    obtain ⟨a, b, c⟩ := h1.ok ok.2.2 ok.1 fun x y hx hxk hr => by
      obtain ⟨kid2, hk2, hA, hC⟩ := which_split (h := h) (ks := t.2) hs (kids_pos ok) (by omega) k
      rw [hxk] at hk2
      simp only [Option.some.injEq] at hk2
      subst hk2
      have := hr.ok (ok.2.2 x hx).1 (ok.2.2 x hx).2 (kid_sorted hs x hx) (by rw [← getE_kid hxk hA hC]; exact hg)
      exact ⟨this.1, this.2.1⟩
    have o8 := ok.2.1
    exact ⟨⟨by omega, by omega, a⟩, c, b⟩
theorem delE_none {es : List Ent} {k : ByteArray} (h : getE es k = none) : delE es k = es := by
  induction es with
  | nil => rfl
  | cons e es ih =>
    simp only [getE] at h
    by_cases hk : e.1 = k
    · simp [hk] at h
    · simp only [hk, if_false] at h
      simp only [delE, hk, if_false]
      split
      · rw [ih h]
      · rfl
end Go.Proofs.Ytpapoalgocmlaaa
namespace Go.Proofs.Ytpapoalgocmlaaa
open Go.RowKit
set_option linter.unusedVariables false
end Go.Proofs.Ytpapoalgocmlaaa
namespace Go.Proofs.Ytpapoalgocmlaaa
open Go.RowKit
set_option linter.unusedVariables false
set_option linter.unusedSimpArgs false
section
variable {P : Program} (w : World)
end
end Go.Proofs.Ytpapoalgocmlaaa
namespace Go.Proofs.Ytpapoalgocmlaaa
open Go.RowKit
set_option linter.unusedVariables false
set_option linter.unusedSimpArgs false
section
variable {P : Program} (w : World)
end
end Go.Proofs.Ytpapoalgocmlaaa
namespace Go.Proofs.Ytpapoalgocmlaaa
open Go.RowKit
structure St (H : Nat → Prop) (w w' : World) : Prop where
  os : w'.os = w.os
  tape : w'.tape = w.tape
  output : w'.output = w.output
  size : w.heap.size ≤ w'.heap.size
  block : ∀ b, b < w.heap.size → ¬ H b → w'.heap[b]? = w.heap[b]?
  fz : ∀ b o, w'.frozen? ⟨b, o, none⟩ = w.frozen? ⟨b, o, none⟩
theorem Ext.fz {w w' : World} (h : Ext w w') (b o : Nat) : w'.frozen? ⟨b, o, none⟩ = w.frozen? ⟨b, o, none⟩ := by
  by_cases hl : b < w.heap.size
  · exact h.frozen hl
  · rw [h.free _ _ (by omega), frozen_none (by omega)]
theorem Ext.st {w w' : World} (h : Ext w w') (H : Nat → Prop) : St H w w' := ⟨h.below.os, h.below.tape, h.below.output, h.size, fun _ hb _ => h.heap hb, h.fz⟩
theorem St.refl (H : Nat → Prop) (w : World) : St H w w := (Ext.refl w).st H
theorem Wr.st {w w' : World} {row : Option Nat} (h : Wr w w' row) {H : Nat → Prop} (hr : ∀ i, row = some i → H i) : St H w w' :=
  ⟨h.grown.os, h.grown.tape, h.grown.output, h.grown.size, fun b hb hn => h.grown.block b hb fun e => hn (hr b e.symm), h.fz⟩
theorem St.trans {H : Nat → Prop} {a b c : World} (h : St H a b) (k : St H b c) : St H a c :=
  ⟨k.os.trans h.os, k.tape.trans h.tape, k.output.trans h.output, Nat.le_trans h.size k.size, fun i hi hn => (k.block i (Nat.lt_of_lt_of_le hi h.size) hn).trans (h.block i hi hn), fun b o => (k.fz b o).trans (h.fz b o)⟩
theorem St.mono {H G : Nat → Prop} {a b : World} (h : St H a b) (hG : ∀ i, i < a.heap.size → H i → G i) : St G a b :=
  ⟨h.os, h.tape, h.output, h.size, fun i hi hn => h.block i hi fun hh => hn (hG i hi hh), h.fz⟩
theorem St.ext_of {H : Nat → Prop} {w w' : World} (h : St H w w') (hH : ∀ b, b < w.heap.size → ¬ H b) : Ext w w' :=
  ⟨⟨h.os, h.tape, h.output, h.size, fun b hb => h.block b hb (hH b hb)⟩, fun b o hb => (h.fz b o).trans (frozen_none hb)⟩
theorem Ext.step {a w w' : World} {H : Nat → Prop} (h : Ext a w) (k : St H w w') (hH : ∀ b, H b → a.heap.size ≤ b) : Ext a w' :=
  (St.trans (h.st H) k).ext_of fun b hb hh => by have := hH b hh; omega
theorem St.ext {H : Nat → Prop} {a b c : World} (h : St H a b) (k : Ext b c) : St H a c := h.trans (k.st H)
theorem St.set {H : Nat → Prop} {a w : World} (h : St H a w) {p : Addr} (hp : a.heap.size ≤ p.block ∨ H p.block) (u : Value) : St H a (w.setCell p u) :=
  ⟨h.os, h.tape, h.output, by simpa [World.setCell] using h.size, fun i hi hn => (Below.heap_setCell w p u i (by
    rintro rfl
    rcases hp with hp | hp
    · omega
    · exact hn hp)).trans (h.block i hi hn), fun b o => by rw [World.frozen?_setCell]; exact h.fz b o⟩
theorem St.heap {H : Nat → Prop} {w w' : World} (h : St H w w') {b : Nat} (hb : b < w.heap.size) (hn : ¬ H b) : w'.heap[b]? = w.heap[b]? := h.block b hb hn
theorem St.cell {H : Nat → Prop} {w w' : World} (h : St H w w') {b o : Nat} (hb : b < w.heap.size) (hn : ¬ H b) : w'.cell? ⟨b, o, none⟩ = w.cell? ⟨b, o, none⟩ :=
  World.cell?_of_block (w := w) (a := ⟨b, o, none⟩) (h.block b hb hn)
theorem St.drewN {H : Nat → Prop} {a w : World} (h : St H a w) (n : Nat) : St H a (w.drewN n) := h.ext ((Ext.refl w).drewN n)
theorem St.drew {H : Nat → Prop} {a w : World} (h : St H a w) : St H a w.drew := h.ext ((Ext.refl w).drew)
theorem St.alloc {H : Nat → Prop} {a w : World} (h : St H a w) (c : Array Value) (t : TypeId) : St H a (w.alloc (.cells c t)) := h.ext ((Ext.refl w).alloc c t)
theorem St.blk {H : Nat → Prop} {w w' : World} {g : Nat} {t : TypeId} {cs : Array Value} (h : St H w w') (hb : Blk w g t cs) (hn : ¬ H g) : Blk w' g t cs := (h.block g hb.lt hn).trans hb
abbrev NH (H : Nat → Prop) (w : World) : Nat → Prop := fun b => b < w.heap.size ∧ ¬ H b
theorem St.agree {H : Nat → Prop} {w w' : World} (h : St H w w') : Agree (NH H w) w w' := fun b hb => h.block b hb.1 hb.2
theorem NH.lt {H : Nat → Prop} {w : World} {b : Nat} (h : NH H w b) : Lt w.heap.size b := h.1
end Go.Proofs.Ytpapoalgocmlaaa
namespace Go.Proofs.Ytpapoalgocmlaaa
open Go.RowKit
set_option linter.unusedVariables false
set_option linter.unusedSimpArgs false
structure GetS (w : World) (nv : Value) (k : ByteArray) (W : World) : Prop where
  ext : Ext w W
  b0 : Blk W w.heap.size 28 #[nv]
  b1 : Blk W (w.heap.size + 1) 9 #[.string k]
  b2 : Blk W (w.heap.size + 1 + 1) 49 #[.int .i64 0, .bool false, .int .i64 0, .string ByteArray.empty, .slice none 0 0, .slice none 0 0]
theorem GetS.step {w W W' : World} {nv : Value} {k : ByteArray} (h : GetS w nv k W) (he : Ext W W') : GetS w nv k W' := ⟨h.ext.trans he, h.b0.ext he, h.b1.ext he, h.b2.ext he⟩
end Go.Proofs.Ytpapoalgocmlaaa
namespace Go.Proofs.Ytpapoalgocmlaaa
open Go.RowKit
set_option linter.unusedVariables false
inductive BuiltR : List Ent → RT → Prop
  | nil : BuiltR [] none
  | snoc {es : List Ent} {T T' : RT} {B : Nat} {k : ByteArray} {v : Val} (h : BuiltR es T) (hp : PutR B k v T T') : BuiltR (es ++ [(k, v)]) T'
def putAll (es : List Ent) (l : List Ent) : List Ent := l.foldl (fun m e => insE m e.1 e.2) es
theorem putAll_snoc (es l : List Ent) (e : Ent) : putAll es (l ++ [e]) = insE (putAll es l) e.1 e.2 := by simp [putAll]
theorem BuiltR.both {l : List Ent} {T : RT} (h : BuiltR l T) : (OkR T) ∧ entsT T = putAll [] l := by
  induction h with
  | nil => exact ⟨trivial, rfl⟩
  | snoc h hp ih => exact ⟨hp.ok ih.1, by rw [hp.ents ih.1, ih.2, putAll_snoc]⟩
end Go.Proofs.Ytpapoalgocmlaaa
namespace Go.Proofs.Ytpapoalgocmlaaa
open Go.RowKit
set_option linter.unusedVariables false
inductive DelT (B : Nat) (k : ByteArray) : RT → RT → Prop
  | no {T : RT} (h : getE (entsT T) k = none) : DelT B k T T
  | same {h : Nat} {t u : PT h} (hg : (getE (ents h t) k).isSome = true) (hd : DelR B k h t u) (hp : 0 < (ents h u).length) (h2 : h = 0 ∨ 2 ≤ size h u) : DelT B k (some ⟨h, t⟩) (some ⟨h, u⟩)
  | gone {t u : PT 0} (hg : (getE (ents 0 t) k).isSome = true) (hd : DelR B k 0 t u) (h0 : ents 0 u = []) : DelT B k (some ⟨0, t⟩) none
  | down {h : Nat} {t : PT (h + 1)} {u : PT h} (hg : (getE (ents (h + 1) t) k).isSome = true) (hd : DelK B k h (DelR B k h) t.2 [u]) : DelT B k (some ⟨h + 1, t⟩) (some ⟨h, u⟩)
theorem DelT.mono {A B : Nat} (hAB : A ≤ B) {k : ByteArray} {T T' : RT} (hd : DelT B k T T') : DelT A k T T' := by
  cases hd with
  | no h => exact .no h
  | same hg hd hp h2 => exact .same hg (hd.mono hAB) hp h2
  | gone hg hd h0 => exact .gone hg (hd.mono hAB) h0
  | down hg hd => exact .down hg (hd.mono hAB fun _ _ hr => hr.mono hAB)
theorem getE_entsT (h : Nat) (t : PT h) : entsT (some ⟨h, t⟩) = Proofs.Ytpapoalgocmlaaa.ents h t := rfl
theorem DelT.ents {B : Nat} {k : ByteArray} {T T' : RT} (hd : DelT B k T T') (ok : OkR T) : entsT T' = delE (entsT T) k := by
  cases hd with
  | no h => exact (delE_none h).symm
  | same hg hd hp h2 => exact hd.ents ok.1 ok.2.2
  | gone hg hd h0 => exact h0.symm.trans (hd.ents ok.1 ok.2.2)
  | down hg hd =>
    rename_i h t u
    have ok1 := ok.1
    have := hd.ents ok.2.2 (kids_pos ok1) (by have := ok1.1; omega) fun x y hx hr => hr.ents (ok1.2.2 x hx).1 (kid_sorted ok.2.2 x hx)
    rw [List.flatMap_cons, List.flatMap_nil, List.append_nil] at this
    exact this
theorem delK_root {B : Nat} {k : ByteArray} {h : Nat} {t : PT (h + 1)} {ks' : List (PT h)} (hd : DelK B k h (DelR B k h) t.2 ks') (ok : OkT (h + 1) t) (hs : Sorted (ents (h + 1) t)) (hg : (getE (ents (h + 1) t) k).isSome = true) :
    (∀ u ∈ ks', OkT h u ∧ 4 ≤ size h u) ∧ ks'.length ≤ t.2.length ∧ t.2.length ≤ ks'.length + 1 := by
  refine hd.ok ok.2.2 ok.1 fun x y hx hxk hr => ?_
  obtain ⟨kid2, hk2, hA, hC⟩ := which_split (h := h) (ks := t.2) hs (kids_pos ok) (by have := ok.1; omega) k
  rw [hxk] at hk2
  simp only [Option.some.injEq] at hk2
  subst hk2
  have := hr.ok (ok.2.2 x hx).1 (ok.2.2 x hx).2 (kid_sorted hs x hx) (by rw [← getE_kid hxk hA hC]; exact hg)
  exact ⟨this.1, this.2.1⟩
theorem DelT.ok {B : Nat} {k : ByteArray} {T T' : RT} (hd : DelT B k T T') (ok : OkR T) : OkR T' := by
  have hs : Sorted (entsT T') := by rw [hd.ents ok]; exact delE_sorted ok.sorted k
  cases hd with
  | no h => exact ok
  | same hg hd hp h2 =>
    rename_i h t u
    cases h with
    | zero =>
      have h1 := hd.1
      have : (delE t.2 k).length ≤ t.2.length := (delE_sublist t.2 k).length_le
      have o : t.2.length ≤ 8 := ok.1
      exact ⟨show u.2.length ≤ 8 by rw [h1]; omega, hp, hs⟩
    | succ h =>
      obtain ⟨h1, -⟩ := hd
      obtain ⟨a, b, c⟩ := delK_root h1 ok.1 ok.2.2 hg
      have h2 : 2 ≤ u.2.length := h2.resolve_left (by omega)
      have o8 := ok.1.2.1
      exact ⟨⟨h2, by omega, a⟩, show 1 ≤ u.2.length by omega, hs⟩
  | gone hg hd h0 => trivial
  | down hg hd =>
    obtain ⟨a, b, c⟩ := delK_root hd ok.1 ok.2.2 hg
    rename_i h t u
    have := a u (List.mem_singleton.2 rfl)
    exact ⟨this.1, by omega, hs⟩
end Go.Proofs.Ytpapoalgocmlaaa
namespace Go.Proofs.Ytpapoalgocmlaaa
open Go.RowKit
set_option linter.unusedVariables false
inductive Sh where
  | mk (es : List Ent) (ks : List Sh)
def Sh.es : Sh → List Ent | .mk e _ => e
def Sh.ks : Sh → List Sh | .mk _ k => k
theorem Sh.sz_pos (d : Sh) : 0 < SizeOf.sizeOf d := by cases d; simp only [Sh.mk.sizeOf_spec]; omega
end Go.Proofs.Ytpapoalgocmlaaa
namespace Go.Proofs.Ytpapoalgocmlaaa
open Go.RowKit
set_option linter.unusedVariables false
structure SCells (w : World) (b o : Nat) (d : Sh) (c : Sl × Sl) : Prop where
  c0 : w.cell? ⟨b, o, none⟩ = some (.slice c.1.a d.es.length c.1.c)
  c1 : w.cell? ⟨b, o + 1, none⟩ = some (.slice c.2.a d.ks.length c.2.c)
theorem SCells.agree {w w' : World} {b o : Nat} {d : Sh} {c : Sl × Sl} (h : SCells w b o d c) {F : Nat → Prop} (ha : Agree F w w') (hb : F b) : SCells w' b o d c := ⟨(ha.cell hb).trans h.c0, (ha.cell hb).trans h.c1⟩
inductive RS (w : World) (F : Nat → Prop) : Sh → Sl → Sl → Prop
  | mk {es : List Ent} {ks : List Sh} {se sk : Sl} (xs : List LE) (bk fk : Nat) (c : Nat → Sl × Sl) (hx : xs.map LE.ent = es) (he : ES w F se xs) (hs : SlAt F sk ks.length bk fk)
      (ce : ∀ j d, ks[j]? = some d → SCells w bk (fk + j * 2) d (c j)) (re : ∀ j d, ks[j]? = some d → RS w F d (c j).1 (c j).2)
      (few : ks.length * 48 ≤ 140737488355328) : RS w F (.mk es ks) se sk
theorem RS.agree {w w' : World} {F : Nat → Prop} {d : Sh} {se sk : Sl} (h : RS w F d se sk) (ha : Agree F w w') : RS w' F d se sk := by
  induction h with
  | mk xs bk fk c hx he hs ce re few ih =>
    exact .mk xs bk fk c hx (he.agree ha) hs (fun j d hj => (ce j d hj).agree ha (hs.fits (lt_length hj))) (fun j d hj => ih j d hj) few
theorem RS.mono {w : World} {F G : Nat → Prop} {d : Sh} {se sk : Sl} (h : RS w F d se sk) (hG : ∀ i, F i → G i) : RS w G d se sk := by
  induction h with
  | mk xs bk fk c hx he hs ce re few ih => exact .mk xs bk fk c hx (he.mono hG) (hs.mono hG) ce (fun j d hj => ih j d hj) few
theorem RS.ext {w w' : World} {d : Sh} {se sk : Sl} (h : RS w (Lt w.heap.size) d se sk) (he : Ext w w') : RS w' (Lt w'.heap.size) d se sk :=
  (h.agree (he.agree fun _ h => h)).mono fun _ hi => Nat.lt_of_lt_of_le hi he.size
theorem RS.ents {w : World} {F : Nat → Prop} {d : Sh} {se sk : Sl} (h : RS w F d se sk) : ∃ xs, xs.map LE.ent = d.es ∧ ES w F se xs := by
  cases h with
  | mk xs bk fk c hx he hs ce re few => exact ⟨xs, hx, he⟩
theorem RS.kid {w : World} {F : Nat → Prop} {d : Sh} {se sk : Sl} (h : RS w F d se sk) {j : Nat} {k : Sh} (hk : d.ks[j]? = some k) :
    ∃ b o s1 s2, sk.a = some ⟨b, o, none⟩ ∧ F b ∧ d.ks.length ≤ sk.c ∧ sk.c ≤ maxLen ∧ SCells w b (o + j * 2) k (s1, s2) ∧ RS w F k s1 s2 := by
  cases h with
  | mk xs bk fk c hx he hs ce re few =>
    obtain ⟨e1, e2, e3⟩ := hs.eq (lt_length hk)
    exact ⟨bk, fk, (c j).1, (c j).2, e1, hs.fits (lt_length hk), e2, e3, ce j k hk, re j k hk⟩
theorem RS.few {w : World} {F : Nat → Prop} {d : Sh} {se sk : Sl} (h : RS w F d se sk) : d.ks.length * 48 ≤ 140737488355328 ∧ d.es.length * 104 ≤ 140737488355328 := by
  cases h with
  | mk xs bk fk c hx he hs ce re few => exact ⟨few, by subst hx; rw [Sh.es, List.length_map]; exact he.few⟩
end Go.Proofs.Ytpapoalgocmlaaa
namespace Go.Proofs.Ytpapoalgocmlaaa
open Go.RowKit
set_option linter.unusedVariables false
set_option linter.unusedSimpArgs false
theorem OE.append {w w' : World} {base : Nat} {s s' : Sl} {xs ys : List LE} {F : Nat → Prop} (ho : OE w base s xs) (hv : Vals w F ys) (hF : ∀ b, F b → base ≤ b ∧ b < w.heap.size ∧ s.row ≠ some b) (hf : (xs.length + ys.length) * 104 ≤ 140737488355328)
    (hown : w'.ownsRow base 56 7 (.slice s'.a (xs.length + ys.length) s'.c) (xs.length + ys.length) (flatE xs ++ flatE ys)) (hwr : Wr w w' s.row) (hs' : s'.row = s.row ∨ ∃ b, s'.row = some b ∧ w.heap.size ≤ b) : OE w' base s' (xs ++ ys) := by
  have hnew : ∀ b, b < w.heap.size → s.row ≠ some b → s'.row ≠ some b := fun b hb hn he => by
    rcases hs' with h | ⟨g, h, hg⟩
    · exact hn (h ▸ he)
    · rw [h] at he; simp at he; omega
  have hag : Agree (fun b => (base ≤ b ∧ b < w.heap.size) ∧ s.row ≠ some b) w w' := hwr.agree (fun i hi => hi.1.2) (fun k hk h => h.2 hk)
  refine ⟨by rw [List.length_append, flatE_app]; exact hown, fun x hx => ?_, by rw [List.length_append]; exact hf⟩
  have hup : ∀ i, ((base ≤ i ∧ i < w.heap.size) ∧ s.row ≠ some i) → (base ≤ i ∧ i < w'.heap.size) ∧ s'.row ≠ some i := fun i hi => ⟨⟨hi.1.1, Nat.lt_of_lt_of_le hi.1.2 hwr.grown.size⟩, hnew i hi.1.2 hi.2⟩
  rcases List.mem_append.1 hx with hx | hx
  · exact ⟨((ho.vals x hx).1.agree hag).mono hup, (ho.vals x hx).2⟩
  · exact ⟨(((hv x hx).1.mono fun i hi => ⟨⟨(hF i hi).1, (hF i hi).2.1⟩, (hF i hi).2.2⟩).agree hag).mono hup, (hv x hx).2⟩
theorem EntriesPost.base {es : List Ent} {w : World} {e : Ending} {w' : World} (h : EntriesPost es w e w') : ∃ (s : Sl) (ys : List LE), e = .returned (.slice s.a ys.length s.c) ∧ ys.map LE.ent = es ∧ OE w' w.heap.size s ys ∧ Ext w w' := h
theorem countR_any {w : World} {F : Nat → Prop} {T : RT} (hT : IsT w F T) : Calls Try.prog 114 #[rootV T] w fun e w' => e = .returned (.int .i64 (entsT T).length) ∧ w = w' := by
  match T, hT with
  | none, _ => exact count_nil w
  | some ⟨h, t⟩, hT => exact count_any hT
theorem treeLen_any {w : World} {F : Nat → Prop} {T : RT} (hF : ∀ b, F b → b < w.heap.size) (hT : IsT w F T) : Calls Try.prog 78 #[treeV T] w fun e w' => e = .returned (.int .i64 (entsT T).length) ∧ Ext w w' := by
  have hx : Ext w (w.alloc (.cells #[rootV T] 30)) := (Ext.refl w).alloc _ _
  have hc := countR_any (hT.agree (hx.agree hF))
  clear hF hT
  go_enter Try.func78, Try.ntmps78
  go_wp2_with fail
  refine hc.mono ?_
  rintro e w' ⟨rfl, rfl⟩
  go_wp2_with fail
  go_ret
  exact ⟨rfl, hx⟩
end Go.Proofs.Ytpapoalgocmlaaa
namespace Go.Proofs.Ytpapoalgocmlaaa
open Go.RowKit
section
variable {P : Program} (w : World)
theorem Rd.block {w : World} {g : Nat} {t : TypeId} {cs : List Value} {size n : Nat} (hb : Blk w g t cs.toArray) (hm : n ≤ maxLen) (hl : cs.length = n * size) : Rd w (fun b => b = g) size ⟨some ⟨g, 0, none⟩, n⟩ n cs :=
  ⟨g, 0, .some _ _ _ _ (Nat.le_refl _) hm rfl, hl, fun j u hj => by rw [Nat.zero_add, hb.cell]; simpa using hj⟩
end
end Go.Proofs.Ytpapoalgocmlaaa
namespace Go.Proofs.Ytpapoalgocmlaaa
open Go.RowKit
set_option linter.unusedVariables false
set_option linter.unusedSimpArgs false
abbrev LS := Sh × Sl × Sl
def LS.cells (x : LS) : List Value := [.slice x.2.1.a x.1.es.length x.2.1.c, .slice x.2.2.a x.1.ks.length x.2.2.c]
def flatD (ds : List LS) : List Value := ds.flatMap LS.cells
theorem flatD_app (a b : List LS) : flatD (a ++ b) = flatD a ++ flatD b := by simp [flatD]
theorem LS.one (x : LS) : ∀ u ∈ LS.cells x, u.oneCell' = true := fun u hu => by
  simp [LS.cells] at hu
  rcases hu with rfl | rfl <;> rfl
structure OS (w : World) (base : Nat) (s : Sl) (ds : List LS) : Prop where
  own : w.ownsRow base 119 2 (.slice s.a ds.length s.c) ds.length (flatD ds)
  vals : ∀ x ∈ ds, RS w (fun b => (base ≤ b ∧ b < w.heap.size) ∧ s.row ≠ some b) x.1 x.2.1 x.2.2
  few : ds.length ≤ 1000
theorem OS.nil (w : World) (base : Nat) : OS w base Sl.none [] := ⟨World.ownsRow_nil _ _ _ _, fun x h => by simp at h, by simp⟩
theorem OS.ext {w w' : World} {base : Nat} {s : Sl} {ds : List LS} (h : OS w base s ds) (he : Ext w w') : OS w' base s ds :=
  ⟨own_agree h.own (he.agree (F := Lt w.heap.size) fun _ hi => hi) fun b hb => (own_row h.own hb).2, fun x hx => ((h.vals x hx).agree (he.agree fun _ hi => hi.1.2)).mono fun i hi => ⟨⟨hi.1.1, Nat.lt_of_lt_of_le hi.1.2 he.size⟩, hi.2⟩, h.few⟩
theorem OS.agree {w w' : World} {base : Nat} {s : Sl} {ds : List LS} (h : OS w base s ds) (ha : Agree (fun b => base ≤ b ∧ b < w.heap.size) w w') (hs : w.heap.size ≤ w'.heap.size) : OS w' base s ds :=
  ⟨own_agree h.own ha fun b hb => own_row h.own hb, fun x hx => ((h.vals x hx).agree (ha.mono fun i hi => hi.1)).mono fun i hi => ⟨⟨hi.1.1, Nat.lt_of_lt_of_le hi.1.2 hs⟩, hi.2⟩, h.few⟩
theorem OS.snoc {w w' : World} {base : Nat} {s s' : Sl} {ds : List LS} {x : LS} {F : Nat → Prop} (ho : OS w base s ds) (hv : RS w F x.1 x.2.1 x.2.2) (hF : ∀ b, F b → base ≤ b ∧ b < w.heap.size ∧ s.row ≠ some b) (hf : ds.length + 1 ≤ 1000)
    (hown : w'.ownsRow base 119 2 (.slice s'.a (ds.length + 1) s'.c) (ds.length + 1) (flatD ds ++ LS.cells x)) (hwr : Wr w w' s.row) (hs' : s'.a = s.a ∨ s'.a = some ⟨w.heap.size, 0, none⟩) : OS w' base s' (ds ++ [x]) := by
  have hnew : ∀ b, b < w.heap.size → s.row ≠ some b → s'.row ≠ some b := fun b hb hn he => by
    rcases hs' with h | h
    · exact hn (by rw [← he]; simp [Sl.row, h])
    · simp [Sl.row, h] at he; omega
  have hag : Agree (fun b => (base ≤ b ∧ b < w.heap.size) ∧ s.row ≠ some b) w w' := hwr.agree (fun i hi => hi.1.2) (fun k hk h => h.2 hk)
  have hup : ∀ i, ((base ≤ i ∧ i < w.heap.size) ∧ s.row ≠ some i) → (base ≤ i ∧ i < w'.heap.size) ∧ s'.row ≠ some i := fun i hi => ⟨⟨hi.1.1, Nat.lt_of_lt_of_le hi.1.2 hwr.grown.size⟩, hnew i hi.1.2 hi.2⟩
  refine ⟨by rw [List.length_append, flatD_app]; simpa [flatD] using hown, fun y hy => ?_, by rw [List.length_append]; simpa using hf⟩
  rcases List.mem_append.1 hy with hy | hy
  · exact ((ho.vals y hy).agree hag).mono hup
  · obtain rfl := List.mem_singleton.1 hy
    exact ((hv.mono fun i hi => ⟨⟨(hF i hi).1, (hF i hi).2.1⟩, (hF i hi).2.2⟩).agree hag).mono hup
end Go.Proofs.Ytpapoalgocmlaaa
namespace Go.Proofs.Ytpapoalgocmlaaa
open Go.RowKit
set_option linter.unusedVariables false
set_option linter.unusedSimpArgs false
theorem rootV_ptr (T : RT) : ∃ p, rootV T = .pointer p := by
  match T with
  | none => exact ⟨_, rfl⟩
  | some ⟨h, t⟩ => exact ⟨_, rfl⟩
theorem ES.ext {w w' : World} {s : Sl} {xs : List LE} (h : ES w (Lt w.heap.size) s xs) (he : Ext w w') : ES w' (Lt w'.heap.size) s xs := (h.agree (he.agree fun _ h => h)).mono fun _ hi => Nat.lt_of_lt_of_le hi he.size
end Go.Proofs.Ytpapoalgocmlaaa
namespace Go.Proofs.Ytpapoalgocmlaaa
open Go.RowKit
set_option linter.unusedVariables false
set_option linter.unusedSimpArgs false
end Go.Proofs.Ytpapoalgocmlaaa
namespace Go.Proofs.Ytpapoalgocmlaaa
open Go.RowKit
set_option linter.unusedVariables false
section
variable {has : (k : Nat) → PT k → Bool}
end
def AllA (p : Nat → Prop) : (h : Nat) → PT h → Prop
  | 0, t => p (addr 0 t)
  | h + 1, t => p (addr (h + 1) t) ∧ ∀ kid ∈ t.2, AllA p h kid
theorem AllA.addr {p : Nat → Prop} : ∀ {h : Nat} {t : PT h}, AllA p h t → p (Proofs.Ytpapoalgocmlaaa.addr h t)
  | 0, _, h => h
  | _ + 1, _, h => h.1
def Sub (k : Nat) (u : PT k) : (h : Nat) → PT h → Prop
  | 0, t => (⟨k, u⟩ : Σ h, PT h) = ⟨0, t⟩
  | h + 1, t => (⟨k, u⟩ : Σ h, PT h) = ⟨h + 1, t⟩ ∨ ∃ kid ∈ t.2, Sub k u h kid
theorem Sub.refl {k : Nat} (u : PT k) : Sub k u k u := by
  cases k with
  | zero => exact rfl
  | succ k => exact .inl rfl
theorem Sub.le {k : Nat} {u : PT k} : ∀ {h : Nat} {t : PT h}, Sub k u h t → k ≤ h
  | 0, t, hs => by
    have : k = 0 := congrArg Sigma.fst hs
    omega
  | h + 1, t, hs => by
    rcases hs with e | ⟨kid, -, hs⟩
    · have : k = h + 1 := congrArg Sigma.fst e
      omega
    · have := hs.le
      omega
theorem Sub.kid {k : Nat} {u : PT (k + 1)} {c : PT k} (hc : c ∈ u.2) : ∀ {h : Nat} {t : PT h}, Sub (k + 1) u h t → Sub k c h t
  | 0, t, hs => by
    have : k + 1 = 0 := congrArg Sigma.fst hs
    omega
  | h + 1, t, hs => by
    rcases hs with e | ⟨kid, hm, hs⟩
    · have e1 : k + 1 = h + 1 := congrArg Sigma.fst e
      obtain rfl : k = h := by omega
      cases e
      exact .inr ⟨c, hc, Sub.refl c⟩
    · exact .inr ⟨kid, hm, hs.kid hc⟩
theorem Sub.ents {k : Nat} {u : PT k} : ∀ {h : Nat} {t : PT h}, Sub k u h t → ∀ e ∈ Proofs.Ytpapoalgocmlaaa.ents k u, e ∈ Proofs.Ytpapoalgocmlaaa.ents h t
  | 0, t, hs, e, he => by cases hs; exact he
  | h + 1, t, hs, e, he => by
    rcases hs with e1 | ⟨kid, hm, hs⟩
    · cases e1; exact he
    · exact List.mem_flatMap.2 ⟨kid, hm, hs.ents e he⟩
end Go.Proofs.Ytpapoalgocmlaaa
namespace Go.Proofs.Ytpapoalgocmlaaa
open Go.RowKit
set_option linter.unusedVariables false
structure Turned (B : Nat) (W W' : World) : Prop where
  os : W'.os = W.os
  tape : W'.tape = W.tape
  output : W'.output = W.output
  size : W'.heap.size = W.heap.size
  block : ∀ b, (b < B ∨ ∃ o, W.heap[b]? = some o ∧ o.isCells = true) → W'.heap[b]? = W.heap[b]?
  fz : ∀ b o, W'.frozen? ⟨b, o, none⟩ = W.frozen? ⟨b, o, none⟩
theorem Turned.put {B l : Nat} {W : World} {o o' : Obj} (hl : B ≤ l) (h : W.heap[l]? = some o) (hc : o.isCells = false) (hc' : o'.isCells = false) : Turned B W (W.putObj l o') := by
  refine ⟨rfl, rfl, rfl, by simp, fun b hb => World.putObj_heap_other ?_, fun b j => ?_⟩
  · rintro rfl
    rcases hb with hb | ⟨o2, h2, h3⟩
    · omega
    · rw [h] at h2; cases h2; rw [hc] at h3; cases h3
  · by_cases e : b = l
    · subst e
      have h1 : (W.putObj b o').heap[b]? = some o' := World.putObj_heap_same (Array.getElem?_eq_some_iff.1 h).1
      unfold World.frozen?
      simp only [h1, h]
      cases o <;> cases o' <;> first | rfl | (simp [Obj.isCells] at hc; done) | (simp [Obj.isCells] at hc'; done)
    · exact World.frozen?_of_block (a := ⟨b, j, none⟩) (World.putObj_heap_other e)
end Go.Proofs.Ytpapoalgocmlaaa
namespace Go.Proofs.Ytpapoalgocmlaaa
open Go.RowKit
set_option linter.unusedVariables false
theorem St.then {C C1 : Nat → Prop} {a b c : World} (h : St C a b) (k : St C1 b c) (hC : ∀ i, i < a.heap.size → C1 i → C i) : St C a c :=
  ⟨k.os.trans h.os, k.tape.trans h.tape, k.output.trans h.output, Nat.le_trans h.size k.size, fun i hi hn => (k.block i (Nat.lt_of_lt_of_le hi h.size) (fun hh => hn (hC i hi hh))).trans (h.block i hi hn), fun b o => (k.fz b o).trans (h.fz b o)⟩
theorem St.put {l : Nat} {W : World} {o o' : Obj} (h : W.heap[l]? = some o) (hc : o.isCells = false) (hc' : o'.isCells = false) : St (fun b => b = l) W (W.putObj l o') :=
  ⟨rfl, rfl, rfl, by simp, fun b _ hn => World.putObj_heap_other hn, (Turned.put (Nat.le_refl l) h hc hc').fz⟩
end Go.Proofs.Ytpapoalgocmlaaa
namespace Go.Proofs.Ytpapoalgocmlaaa
open Go.RowKit
set_option linter.unusedVariables false
def plainOpD : Op → Bool
  | .call c => match c.callee with
    | .builtin .append | .builtin .len | .builtin .cap | .builtin .copy | .builtin .max | .builtin .min => true
    | _ => false
  | .go _ | .defer _ | .send _ _ | .recv _ _ _ | .select _ _ | .panic _ => false
  | _ => true
theorem vrowD {P : Program} {w w' : World} (s : Sem Value) (row : String) (args : Array Value) : (do pure (Next.value (← s)) : Sem Next).run P w ≠ .ok (.row row args) w' := by
  intro h
  rw [Sem.run_bind] at h
  cases hs : s.run P w with
  | ok v w1 => rw [hs] at h; simp [Result.andThen] at h
  | halt x w1 => rw [hs] at h; simp [Result.andThen] at h
theorem urowD {P : Program} {w w' : World} (s : Sem Unit) (row : String) (args : Array Value) : (do s; pure Next.skip : Sem Next).run P w ≠ .ok (.row row args) w' := by
  intro h
  rw [Sem.run_bind] at h
  cases hs : s.run P w with
  | ok v w1 => rw [hs] at h; simp [Result.andThen] at h
  | halt x w1 => rw [hs] at h; simp [Result.andThen] at h
theorem arowD {w' : World} (r : Result Value) (row : String) (args : Array Value) : (r.andThen fun a w => Result.ok (Next.value a) w) ≠ .ok (.row row args) w' := by cases r <;> simp [Result.andThen]
theorem bind_rowD {P : Program} {w w' : World} {α : Type} {s : Sem α} {f : α → Sem Next} {row : String} {args : Array Value} (h : (s >>= f).run P w = .ok (.row row args) w') : ∃ a w1, (f a).run P w1 = .ok (.row row args) w' := by
  rw [Sem.run_bind] at h
  cases hs : s.run P w with
  | ok a w1 => rw [hs] at h; exact ⟨a, w1, by simpa [Result.andThen] using h⟩
  | halt x w1 => rw [hs] at h; simp [Result.andThen] at h
theorem panic_rowD {P : Program} {w w' : World} {row : String} {args : Array Value} : (runtimePanic .nilDeref : Sem Next).run P w ≠ .ok (.row row args) w' := by
  intro h
  simp [runtimePanic, go_sem] at h
theorem plain_rowD {P : Program} {ρ : Operand → Value} {o : Oper} {w w' : World} (h : plainOpD o.op = true) (row : String) (args : Array Value) : (execOp ρ o).run P w ≠ .ok (.row row args) w' := by
  unfold execOp
  cases ho : o.op with
  | call c =>
    rw [ho] at h
    cases hc : c.callee with
    | builtin b =>
      simp only [plainOpD, hc] at h
      cases b <;> first | exact absurd h (by decide) | (simp only [resolve, hc, Sem.run_bind, Sem.run_pure, Result.andThen_ok, invoke, builtin]; exact arowD _ _ _)
    | _ => simp [plainOpD, hc] at h
  | nilCheck x =>
    intro h'
    simp only at h'
    split at h'
    · exact panic_rowD h'
    · exact panic_rowD h'
    · exact panic_rowD h'
    · split at h'
      · exact panic_rowD h'
      · obtain ⟨a1, w1, h1⟩ := bind_rowD h'
        obtain ⟨a2, w2, h2⟩ := bind_rowD h1
        split at h2
        · obtain ⟨a3, w3, h3⟩ := bind_rowD h2
          simp at h3
        · simp at h2
      · simp at h'
    · simp at h'
  | pick c x y =>
    intro h'
    simp only at h'
    rw [Sem.run_bind] at h'
    cases hs : (asBool (ρ c)).run P w with
    | ok v w1 => rw [hs] at h'; simp [Result.andThen] at h'
    | halt x w1 => rw [hs] at h'; simp [Result.andThen] at h'
  | _ =>
    simp only
    first
    | exact vrowD _ _ _
    | exact urowD _ _ _
    | (intro h; simp at h; done)
    | (rw [ho] at h; simp [plainOpD] at h)
end Go.Proofs.Ytpapoalgocmlaaa
namespace Go.Proofs.Ytpapoalgocmlaaa
open Go.RowKit
set_option linter.unusedVariables false
def plainOpE (f : FuncId) : Op → Bool
  | .call c => match c.callee with
    | .value (.func k) => k == f
    | _ => plainOpD (.call c)
  | o => plainOpD o
theorem plain_rowE {P : Program} {f : FuncId} (eg : ∀ args w, (callFunc f args).run P w = .ok (.enter f args) w) {a : Act} {o : Oper} {w w' : World} (h : plainOpE f o.op = true) (row : String) (args : Array Value) : (execOp a.eval o).run P w ≠ .ok (.row row args) w' := by
  cases hd : plainOpD o.op with
  | true => exact plain_rowD hd row args
  | false =>
    cases ho : o.op with
    | call c =>
      rw [ho] at h hd
      cases hc : c.callee with
      | value v =>
        cases v with
        | func k =>
          simp only [plainOpE, hc] at h
          obtain rfl : k = f := by simpa using h
          unfold execOp
          intro h'
          simp [ho, resolve, hc, Act.eval, invoke, go_sem, eg] at h'
        | _ =>
          simp only [plainOpE, hc] at h
          rw [hd] at h; cases h
      | _ =>
        simp only [plainOpE, hc] at h
        rw [hd] at h; cases h
    | _ =>
      rw [ho] at h hd
      simp only [plainOpE] at h
      rw [hd] at h; cases h
theorem plain_no_deferE {f : FuncId} {o : Oper} (h : plainOpE f o.op = true) : ∀ c, o.op ≠ .defer c := fun c e => by rw [e] at h; simp [plainOpE, plainOpD] at h
theorem wpOpIn_of_plainE {P : Program} {f : FuncId} (eg : ∀ args w, (callFunc f args).run P w = .ok (.enter f args) w) {ops : Array Oper} {Q : Exit → Act → World → Prop} {l n : Nat} (hp : ∀ (i : Nat) (o : Oper), ops[i]? = some o → plainOpE f o.op = true) (hQ : ¬ LetsOut Q) {i : Nat} {K K' : Act → World → Prop} {a : Act} {w : World}
    (hK : ∀ a w, K a w → K' a w) (h : wpOp P ops Q i K a w) : wpOpIn (Fence.wide.inRound l) n P ops Q i K' a w := by
  unfold wpOp at h
  unfold wpOpIn
  cases ho : ops[i]? with
  | none => simp only [ho] at h ⊢; exact hK _ _ h
  | some o =>
    simp only [ho] at h ⊢
    split at h
    · rename_i hw
      rw [if_pos hw]
      rcases h with h | ⟨-, h⟩
      · unfold Oper.wpIn
        refine ⟨fun _ _ => trivial, ?_⟩
        rw [show (Fence.wide.inRound l).round = some l from rfl, Oper.semAt_some l _ o (plain_no_deferE (hp i o ho))]
        unfold Oper.wp at h
        have hr := fun row args w' => plain_rowE (P := P) eg (a := a) (w := w) (w' := w') (hp i o ho) row args
        generalize (execOp a.eval o).run P w = r at *
        cases r with
        | ok x w' =>
          cases x <;> simp only [Oper.upon, Oper.uponIn] at h ⊢
          case value v => exact hK _ _ h
          case skip => exact hK _ _ h
          case defer d => exact hK _ _ h
          case enter f args =>
            refine ⟨(fun hd => by simp [Fence.wide] at hd), (CallsIn.inRound l (callsIn_wide.2 h)).mono fun e w'' he => ?_⟩
            cases e with
            | returned v => exact hK _ _ he
            | panicked c => exact he
            | outgrown => exact he
          case row row args => exact absurd rfl (hr row args w')
        | halt x w' => cases x <;> simp only [Oper.upon, Oper.uponIn] at h ⊢ <;> exact h
      · exact absurd h hQ
    · rename_i hw
      rw [if_neg hw]
      exact ⟨fun _ _ => trivial, hK _ _ h⟩
theorem wpAnyIn_of_plainE {P : Program} {f : FuncId} (eg : ∀ args w, (callFunc f args).run P w = .ok (.enter f args) w) {md : Region.Mode} {ops : Array Oper} {Q : Exit → Act → World → Prop} {S : World → Prop} {l n : Nat} (hp : ∀ (i : Nat) (o : Oper), ops[i]? = some o → plainOpE f o.op = true) (hQ : ¬ LetsOut Q) :
    ∀ fuel listed a w, wpAnyH P md ops Q S fuel listed a w → wpAnyIn (Fence.wide.inRound l) n P md ops Q fuel listed a w := by
  intro fuel
  induction fuel with
  | zero => exact fun _ _ _ h => h
  | succ fuel ih =>
    intro listed a w h
    exact ⟨h.1, fun i hi => wpOpIn_of_plainE eg hp hQ (fun a' w' h' => ih _ a' w' h'.2) (h.2 i hi)⟩
theorem wpIn_region_roundE {P : Program} {f : FuncId} (eg : ∀ args w, (callFunc f args).run P w = .ok (.enter f args) w) {id l n : Nat} {ops : Array Oper} {Q : Exit → Act → World → Prop} {S : World → Prop} {a : Act} {w : World} (hp : (ops.all fun o => plainOpE f o.op) = true) (hQ : ¬ LetsOut Q) (hm : P.follows .mixedOrders = true) (hS : S w.drew)
    (h : S w.drew → wpAnyH P .any ops Q S ops.size (Array.replicate ops.size false) a w.drew) : (Code.region id ops true).wpIn (Fence.wide.inRound l) n P Q a w :=
  wpIn_region_any hm (wpAnyIn_of_plainE eg (fun i o ho => by
    have := Array.all_eq_true.1 hp i (Array.getElem?_eq_some_iff.1 ho).1
    rwa [(Array.getElem?_eq_some_iff.1 ho).2] at this) hQ _ _ _ _ (h hS))
end Go.Proofs.Ytpapoalgocmlaaa
namespace Go.Proofs.Ytpapoalgocmlaaa
open Go.RowKit
set_option linter.unusedVariables false
set_option linter.unusedSimpArgs false
section
variable {w : World} {base m nr : Nat} {sl sr : Sl} {ls rs : List Value} {P1 P2 : Nat → World → Prop}
end
section
variable {w : World} {base nl m : Nat} {sl sr : Sl} {ls rs : List Value} {P1 P2 : Nat → World → Prop}
end
end Go.Proofs.Ytpapoalgocmlaaa
namespace Go.Proofs.Ytpapoalgocmlaaa
open Go.RowKit
set_option linter.unusedVariables false
set_option linter.unusedSimpArgs false
section
variable {w : World} {base m nr : Nat} {sl sr : Sl} {ls rs : List Value} {P1 P2 : Nat → World → Prop}
end
section
variable {w : World} {base nl m : Nat} {sl sr : Sl} {ls rs : List Value} {P1 P2 : Nat → World → Prop}
end
end Go.Proofs.Ytpapoalgocmlaaa
namespace Go.Proofs.Ytpapoalgocmlaaa
open Go.RowKit
set_option linter.unusedVariables false
set_option linter.unusedSimpArgs false
end Go.Proofs.Ytpapoalgocmlaaa
namespace Go.Proofs.Ytpapoalgocmlaaa
open Go.RowKit
set_option linter.unusedVariables false
set_option linter.unusedSimpArgs false
theorem own_base {w : World} {A B e size n : Nat} {v : Value} {xs : List Value} (h : w.ownsRow B e size v n xs) (hAB : A ≤ B) : w.ownsRow A e size v n xs := by
  refine ⟨h.1, ?_⟩
  rcases h.2 with hl | ⟨g, cap, cur, hv, hg, r⟩
  · exact .inl hl
  · exact .inr ⟨g, cap, cur, hv, Nat.le_trans hAB hg, r⟩
theorem OE.base {w : World} {A B : Nat} {s : Sl} {xs : List LE} (h : OE w B s xs) (hAB : A ≤ B) : OE w A s xs := ⟨own_base h.own hAB, h.vals.mono fun i hi => ⟨⟨Nat.le_trans hAB hi.1.1, hi.1.2⟩, hi.2⟩, h.few⟩
end Go.Proofs.Ytpapoalgocmlaaa
namespace Go.Proofs.Ytpapoalgocmlaaa
open Go.RowKit
set_option linter.unusedVariables false
set_option linter.unusedSimpArgs false
end Go.Proofs.Ytpapoalgocmlaaa
namespace Go.Proofs.Ytpapoalgocmlaaa
open Go.RowKit
set_option linter.unusedVariables false
set_option linter.unusedSimpArgs false
end Go.Proofs.Ytpapoalgocmlaaa
namespace Go.Proofs.Ytpapoalgocmlaaa
set_option linter.unusedVariables false
section
variable {P : Program} {ops : Array Oper} {Q : Exit → Act → World → Prop} {md : Region.Mode} {S : World → Prop}
theorem held_on {i : Nat} {oi : Oper} {d : Option Tmp} {v : Value} {fuel : Nat} {listed : Array Bool} {a : Act} {w : World} (hi : ops[i]? = some oi) (hd : oi.dst = d)
    (hs : Region.noSelect ops = true) (hf : Region.free md ops listed i = true) (hr : (Region.ready md ops listed).contains i = true)
    (hQ : ∀ c a w, Q (.panic c) (a.put d v) w → Q (.panic c) a w) (hw : Region.wanted oi (yielded ops a.tmps) = true) (hS : S w) (hy : ∀ w, S w → (execOp a.eval oi).run P w = .ok (.value v) w)
    (h : wpAnyH P md ops Q S fuel (listed.setIfInBounds i true) (a.put d v) w) : wpAnyH P md ops Q S (fuel + 1) listed a w := by
  subst hd
  exact wpAnyH_take hi hs hf hr hQ (.inl ⟨hw, hy⟩) hS h
theorem held_off {i : Nat} {oi : Oper} {d : Option Tmp} {fuel : Nat} {listed : Array Bool} {a : Act} {w : World} (hi : ops[i]? = some oi) (hd : oi.dst = d)
    (hs : Region.noSelect ops = true) (hf : Region.free md ops listed i = true) (hr : (Region.ready md ops listed).contains i = true)
    (hQ : ∀ c a w, Q (.panic c) (a.put d undef) w → Q (.panic c) a w) (hw : Region.wanted oi (yielded ops a.tmps) = false) (hS : S w)
    (h : wpAnyH P md ops Q S fuel (listed.setIfInBounds i true) (a.put d undef) w) : wpAnyH P md ops Q S (fuel + 1) listed a w := by
  subst hd
  exact wpAnyH_take hi hs hf hr hQ (.inr ⟨hw, rfl⟩) hS h
theorem held_call {i : Nat} {oi : Oper} {fuel : Nat} {listed : Array Bool} {a : Act} {w : World} (hr : Region.ready md ops listed = [i]) (hi : ops[i]? = some oi) (hw : Region.wanted oi (yielded ops a.tmps) = true)
    (h : ∀ K' : Act → World → Prop, Shut (∀ a w, S w → (S w → wpAnyH P md ops Q S fuel (listed.setIfInBounds i true) a w) → K' a w) → Oper.wp P oi a w K' Q) : wpAnyH P md ops Q S (fuel + 1) listed a w :=
  wpAnyH_ready hr (by simp) (AllReadyH.cons hi (fun K' hK => by rw [if_pos hw]; exact h K' hK) AllReadyH.nil)
end
end Go.Proofs.Ytpapoalgocmlaaa
namespace Go.Proofs.Ytpapoalgocmlaaa
open Go.RowKit
set_option linter.unusedVariables false
set_option linter.unusedSimpArgs false
end Go.Proofs.Ytpapoalgocmlaaa
namespace Go.Proofs.Ytpapoalgocmlaaa
open Go.RowKit
set_option linter.unusedVariables false
set_option linter.unusedSimpArgs false
end Go.Proofs.Ytpapoalgocmlaaa
namespace Go.Proofs.Ytpapoalgocmlaaa
open Go.RowKit
set_option linter.unusedVariables false
set_option linter.unusedSimpArgs false
end Go.Proofs.Ytpapoalgocmlaaa
namespace Go.Proofs.Ytpapoalgocmlaaa
open Go.RowKit
set_option linter.unusedVariables false
set_option linter.unusedSimpArgs false
abbrev listV (n : Int) : Val := .mk 5 false 0 ByteArray.empty [.mk 3 false n ByteArray.empty [] [] []] [] []
structure OneT (k : ByteArray) (n : Int) (T : RT) (F : Nat → Prop) (w : World) : Prop where
  tree : IsT w F T
  ok : OkR T
  ents : entsT T = [(k, listV n)]
theorem OneT.agree {k : ByteArray} {n : Int} {T : RT} {F : Nat → Prop} {w w' : World} (h : OneT k n T F w) (ha : Agree F w w') : OneT k n T F w' := ⟨h.tree.agree ha, h.ok, h.ents⟩
end Go.Proofs.Ytpapoalgocmlaaa
namespace Go.Proofs.Ytpapoalgocmlaaa
open Go.RowKit
set_option linter.unusedVariables false
set_option linter.unusedSimpArgs false
theorem leadsT {w : World} {F : Nat → Prop} {T : RT} (hT : IsT w F T) {p : Option Addr} (hp : rootV T = .pointer p) : Leads w p := by
  intro a ha
  subst ha
  match T, hT, hp with
  | some ⟨h, t⟩, hT, hp =>
    obtain ⟨_, _, _, _, _, _, hb⟩ := IsN.cells hT
    have hp : Value.pointer (some ⟨addr h t, 0, none⟩) = .pointer (some a) := hp
    simp only [Value.pointer.injEq, Option.some.injEq] at hp
    subst hp
    exact ⟨_, _, hb⟩
set_option maxRecDepth 100000 in
theorem same_len {w : World} {F G : Nat → Prop} {S T : RT} (hF : ∀ b, F b → b < w.heap.size) (hG : ∀ b, G b → b < w.heap.size) (hS : IsT w F S) (hT : IsT w G T) (hd : rootV S ≠ rootV T) (hn : (entsT S).length ≠ (entsT T).length) :
    Calls Try.prog 76 #[treeV S, treeV T] w fun e w' => e = .returned (.bool false) ∧ Ext w w' := by
  obtain ⟨p, hp⟩ := rootV_ptr S
  obtain ⟨q, hq⟩ := rootV_ptr T
  have hlS : ∀ W, Ext w W → Calls Try.prog 78 #[.agg #[.pointer p]] W fun e w' => e = .returned (.int .i64 (entsT S).length) ∧ Ext W w' := fun W hW => by
    have := treeLen_any (fun b hb => Nat.lt_of_lt_of_le (hF b hb) hW.size) (hS.agree (hW.agree hF))
    rwa [treeV, hp] at this
  have hlT : ∀ W, Ext w W → Calls Try.prog 78 #[.agg #[.pointer q]] W fun e w' => e = .returned (.int .i64 (entsT T).length) ∧ Ext W w' := fun W hW => by
    have := treeLen_any (fun b hb => Nat.lt_of_lt_of_le (hG b hb) hW.size) (hT.agree (hW.agree hG))
    rwa [treeV, hq] at this
  have hpq : p ≠ q := fun e => hd (by rw [hp, hq, e])
  have hx := ((Ext.refl w).alloc #[.pointer p] 30).alloc #[.pointer q] 30
  have his := is_any ((w.alloc (.cells #[.pointer p] 30)).alloc (.cells #[.pointer q] 30)) p q ((leadsT hS hp).ext hx) ((leadsT hT hq).ext hx)
  rw [decide_eq_false hpq] at his
  have HLS := Lib.hid hlS
  have HLT := Lib.hid hlT
  have HX := Lib.hid hx
  have hne : (((entsT S).length : Int) == ((entsT T).length : Int)) = false := beq_eq_false_iff_ne.2 (by omega)
  generalize (entsT S).length = nS at *
  generalize (entsT T).length = nT at *
  rw [treeV, treeV, hp, hq]
  clear hlS hlT hx hF hG hS hT hn hp hq hd
  go_enter Try.func76, Try.ntmps76
  go_wp2_with fail
  have b1 := Blk.new w 30 #[.pointer p]
  have b2 := Blk.new (w.alloc (.cells #[.pointer p] 30)) 30 #[.pointer q]
  refine his.mono ?_
  rintro e w1 ⟨rfl, hx1⟩
  have c1 : w1.cell? ⟨w.heap.size, 0, none⟩ = some (.pointer p) := ((b1.ext ((Ext.refl _).alloc _ _)).ext hx1).cell 0
  have c2 : w1.cell? ⟨w.heap.size + 1, 0, none⟩ = some (.pointer q) := by
    have := (b2.ext hx1).cell 0
    rwa [World.size_alloc] at this
  have hs1 := hx1.size
  rw [World.size_alloc, World.size_alloc] at hs1
  have HX1 := Lib.hid (HX.out.trans hx1)
  clear b1 b2 hx1
  go_wp2_with fail
  have l1 : w.heap.size < w1.heap.size := by omega
  have l2 : w.heap.size + 1 < w1.heap.size := by omega
  refine wp_region_held_drew (S := (fun w' => w'.cell? ⟨w.heap.size, 0, none⟩ = some (.pointer p) ∧ w'.cell? ⟨w.heap.size + 1, 0, none⟩ = some (.pointer q))) (by kernel_rfl) (⟨c1, c2⟩) (fun hHeld => ?_)
  refine held_on (i := 0) (d := (some 8)) (v := ?_) rfl rfl (by kernel_rfl) (by kernel_rfl) (by kernel_rfl) (fun _ _ _ h => h) (by rfl) hHeld ?_ ?_
  rotate_left
  focus (intro w hSw; (try dsimp only at hSw); go_simp; first | done | with_reducible rfl)
  try simp only [Act.put, List.setIfInBounds_toArray, List.set_cons_zero, List.set_cons_succ]
  refine held_on (i := 2) (d := (some 10)) (v := ?_) rfl rfl (by kernel_rfl) (by kernel_rfl) (by kernel_rfl) (fun _ _ _ h => h) (by rfl) hHeld ?_ ?_
  rotate_left
  focus (intro w hSw; (try dsimp only at hSw); go_simp; first | done | with_reducible rfl)
  try simp only [Act.put, List.setIfInBounds_toArray, List.set_cons_zero, List.set_cons_succ]
  refine held_call (i := 1) (by kernel_rfl) rfl (by rfl) (fun K hK => ?_)
  go_simp
  (refine (HLS.out _ HX1.out.drew).mono ?_; rintro e w2 ⟨rfl, hx2⟩; have d1 := (hx2.cell (o := 0) l1).trans c1; have d2 := (hx2.cell (o := 0) l2).trans c2; have m1 := Nat.lt_of_lt_of_le l1 hx2.size; have m2 := Nat.lt_of_lt_of_le l2 hx2.size)
  refine hK.out _ _ (⟨d1, d2⟩) (fun hHeld => ?_)
  clear hK K
  try simp only [Act.put, List.setIfInBounds_toArray, List.set_cons_zero, List.set_cons_succ]
  refine held_call (i := 3) (by kernel_rfl) rfl (by rfl) (fun K hK => ?_)
  go_simp
  (refine (HLT.out _ ((HX1.out.drew).trans hx2)).mono ?_; rintro e w3 ⟨rfl, hx3⟩; have e1 := (hx3.cell (o := 0) m1).trans d1; have e2 := (hx3.cell (o := 0) m2).trans d2)
  refine hK.out _ _ (⟨e1, e2⟩) (fun hHeld => ?_)
  clear hK K
  try simp only [Act.put, List.setIfInBounds_toArray, List.set_cons_zero, List.set_cons_succ]
  refine held_on (i := 4) (d := (some 12)) (v := ?_) rfl rfl (by kernel_rfl) (by kernel_rfl) (by kernel_rfl) (fun _ _ _ h => h) (by rfl) hHeld ?_ ?_
  rotate_left
  focus (intro w hSw; (try dsimp only at hSw); go_simp; first | done | with_reducible rfl)
  try simp only [Act.put, List.setIfInBounds_toArray, List.set_cons_zero, List.set_cons_succ]
  refine held_on (i := 5) (d := (some 13)) (v := ?_) rfl rfl (by kernel_rfl) (by kernel_rfl) (by kernel_rfl) (fun _ _ _ h => h) (by rfl) hHeld ?_ ?_
  rotate_left
  focus (intro w hSw; (try dsimp only at hSw); go_simp; first | done | with_reducible rfl)
  try simp only [Act.put, List.setIfInBounds_toArray, List.set_cons_zero, List.set_cons_succ]
  refine held_off (i := 6) (d := (some 14)) rfl rfl (by kernel_rfl) (by kernel_rfl) (by kernel_rfl) (fun _ _ _ h => h) (by rfl) hHeld ?_
  try simp only [Act.put, List.setIfInBounds_toArray, List.set_cons_zero, List.set_cons_succ]
  refine held_off (i := 7) (d := (some 15)) rfl rfl (by kernel_rfl) (by kernel_rfl) (by kernel_rfl) (fun _ _ _ h => h) (by rfl) hHeld ?_
  try simp only [Act.put, List.setIfInBounds_toArray, List.set_cons_zero, List.set_cons_succ]
  refine held_off (i := 8) (d := (some 16)) rfl rfl (by kernel_rfl) (by kernel_rfl) (by kernel_rfl) (fun _ _ _ h => h) (by rfl) hHeld ?_
  try simp only [Act.put, List.setIfInBounds_toArray, List.set_cons_zero, List.set_cons_succ]
  refine held_off (i := 9) (d := (some 17)) rfl rfl (by kernel_rfl) (by kernel_rfl) (by kernel_rfl) (fun _ _ _ h => h) (by rfl) hHeld ?_
  try simp only [Act.put, List.setIfInBounds_toArray, List.set_cons_zero, List.set_cons_succ]
  refine held_off (i := 10) (d := (some 18)) rfl rfl (by kernel_rfl) (by kernel_rfl) (by kernel_rfl) (fun _ _ _ h => h) (by rfl) hHeld ?_
  try simp only [Act.put, List.setIfInBounds_toArray, List.set_cons_zero, List.set_cons_succ]
  refine held_on (i := 11) (d := (some 19)) (v := ?_) rfl rfl (by kernel_rfl) (by kernel_rfl) (by kernel_rfl) (fun _ _ _ h => h) (by rfl) hHeld ?_ ?_
  rotate_left
  focus (intro w hSw; (try dsimp only at hSw); go_simp; first | done | with_reducible rfl)
  try simp only [Act.put, List.setIfInBounds_toArray, List.set_cons_zero, List.set_cons_succ]
  refine held_on (i := 12) (d := (some 4)) (v := ?_) rfl rfl (by kernel_rfl) (by kernel_rfl) (by kernel_rfl) (fun _ _ _ h => h) (by rfl) hHeld ?_ ?_
  rotate_left
  focus (intro w hSw; (try dsimp only at hSw); go_simp; first | done | with_reducible rfl)
  try simp only [Act.put, List.setIfInBounds_toArray, List.set_cons_zero, List.set_cons_succ]
  refine wpAnyH_done (by kernel_rfl) ?_ _
  go_wp2_with fail
  go_ret
  exact ⟨rfl, ((HX1.out.drew).trans hx2).trans hx3⟩
abbrev nulV : Val := .mk 1 false 0 ByteArray.empty [] [] []
abbrev E0 : ByteArray := ⟨#[]⟩
structure One0 (B : Nat) (u : PT 0) (W : World) : Prop where
  tree : IsN W (Lt B) 0 u
  le : B ≤ W.heap.size
  es : u.2 = [(E0, nulV)]
theorem One0.ext {B : Nat} {u : PT 0} {W W' : World} (h : One0 B u W) (hx : Ext W W') : One0 B u W' := ⟨h.tree.agree (hx.agree fun b hb => Nat.lt_of_lt_of_le hb h.le), Nat.le_trans h.le hx.size, h.es⟩
theorem One0.ok {B : Nat} {u : PT 0} {W : World} (h : One0 B u W) : OkR (some ⟨0, u⟩) := ⟨show u.2.length ≤ 8 by rw [h.es]; simp, show 1 ≤ u.2.length by rw [h.es]; simp, show Sorted u.2 by rw [h.es]; exact List.pairwise_singleton _ _⟩
theorem One0.ents {B : Nat} {u : PT 0} {W : World} (h : One0 B u W) : entsT (some ⟨0, u⟩) = [(E0, nulV)] := h.es
theorem One0.lt {B : Nat} {u : PT 0} {W : World} (h : One0 B u W) (b : Nat) (hb : Lt B b) : b < W.heap.size := Nat.lt_of_lt_of_le hb h.le
theorem One0.len {B : Nat} {u : PT 0} {W : World} (h : One0 B u W) : Calls Try.prog 78 #[.agg #[.pointer (some ⟨addr 0 u, 0, none⟩)]] W fun e w' => e = .returned (.int .i64 1) ∧ Ext W w' := by
  have := treeLen_any (T := some ⟨0, u⟩) h.lt h.tree
  rw [h.ents] at this
  exact this
theorem One0.same {B : Nat} {u : PT 0} {W : World} (h : One0 B u W) : Calls Try.prog 76 #[.agg #[.pointer (some ⟨addr 0 u, 0, none⟩)], .agg #[.pointer none]] W fun e w' => e = .returned (.bool false) ∧ Ext W w' :=
  same_len (F := Lt B) (G := fun _ => False) (S := some ⟨0, u⟩) (T := none) h.lt (fun _ h => h.elim) h.tree trivial (by simp [rootV, ptr]) (by rw [h.ents]; simp [entsT])
end Go.Proofs.Ytpapoalgocmlaaa
namespace Go.Proofs.Ytpapoalgocmlaaa
open Go.RowKit
set_option linter.unusedVariables false
set_option linter.unusedSimpArgs false
structure MapAt (H : Nat → Prop) (w : World) (M : Nat) (es : List Ent) : Prop where
  hm : H M
  ex : ∃ s xs, Blk w M 82 #[.slice s.a xs.length s.c] ∧ ES w (NH H w) s xs ∧ xs.map LE.ent = es
theorem MapAt.st {H G : Nat → Prop} {w w' : World} {M : Nat} {es : List Ent} (h : MapAt H w M es) (k : St G w w') (hG : ∀ b, G b → H b) (hM : ¬ G M) : MapAt H w' M es := by
  obtain ⟨hm, s, xs, hb, hs, hx⟩ := h
  exact ⟨hm, s, xs, k.blk hb hM, (hs.agree (fun b hb => k.block b hb.1 fun hh => hb.2 (hG b hh))).mono fun i hi => ⟨Nat.lt_of_lt_of_le hi.1 k.size, hi.2⟩, hx⟩
theorem MapAt.ext {H : Nat → Prop} {w w' : World} {M : Nat} {es : List Ent} (h : MapAt H w M es) (k : Ext w w') : MapAt H w' M es :=
  h.st (k.st fun _ => False) (fun _ hb => hb.elim) (fun hb => hb)
theorem MapAt.more {H G : Nat → Prop} {w : World} {M : Nat} {es : List Ent} (h : MapAt H w M es) (hH : ∀ b, H b → G b) (hG : ∀ b, b < w.heap.size → G b → H b) : MapAt G w M es := by
  obtain ⟨hm, s, xs, hb, hs, hx⟩ := h
  exact ⟨hH M hm, s, xs, hb, hs.mono fun i hi => ⟨hi.1, fun hg => hi.2 (hG i hi.1 hg)⟩, hx⟩
end Go.Proofs.Ytpapoalgocmlaaa
namespace Go.Proofs.Ytpapoalgocmlaaa
open Go.RowKit
set_option linter.unusedVariables false
set_option linter.unusedSimpArgs false
section
variable {P : Program} {w : World}
end
end Go.Proofs.Ytpapoalgocmlaaa
namespace Go.Proofs.Ytpapoalgocmlaaa
open Go.RowKit
set_option linter.unusedVariables false
set_option linter.unusedSimpArgs false
end Go.Proofs.Ytpapoalgocmlaaa
namespace Go.Proofs.Ytpapoalgocmlaaa
open Go.RowKit
set_option linter.unusedVariables false
set_option linter.unusedSimpArgs false
section
variable {P : Program} (w : World)
end
end Go.Proofs.Ytpapoalgocmlaaa
namespace Go.Proofs.Ytpapoalgocmlaaa
open Go.RowKit
set_option linter.unusedVariables false
set_option linter.unusedSimpArgs false
end Go.Proofs.Ytpapoalgocmlaaa
