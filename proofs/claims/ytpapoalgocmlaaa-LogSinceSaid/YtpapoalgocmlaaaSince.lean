/- Log.Since: from when on a version has had its tree. -/
import Derived.Test.YtpapoalgocmlaaaLogAllB
namespace Go.Proofs.Ytpapoalgocmlaaa
open Go.RowKit Go.Shelf
set_option linter.unusedVariables false
set_option linter.unusedSimpArgs false
attribute [local go_sem] Oper.semAt_some

/-- What Since keeps in mind while it goes over what is told: from when on, and is it going on? -/
def sinceF (x : Option Addr) (l : List (Nat × Option Addr)) : Nat × Bool := l.foldl (fun s e => if e.2 = x then (if s.2 then s else (e.1, true)) else (s.1, false)) (0, false)
theorem sinceF_snoc (x : Option Addr) (l : List (Nat × Option Addr)) (e : Nat × Option Addr) : sinceF x (l ++ [e]) = if e.2 = x then (if (sinceF x l).2 then sinceF x l else (e.1, true)) else ((sinceF x l).1, false) := by
  unfold sinceF
  rw [List.foldl_append]
  rfl
def tl (o : Nat) (r : Nat → Option Addr) (j : Nat) : List (Nat × Option Addr) := (List.range j).map fun i => (o + i, r i)
theorem tl_succ (o : Nat) (r : Nat → Option Addr) (j : Nat) : tl o r (j + 1) = tl o r j ++ [(o + j, r j)] := by simp [tl, List.range_succ]
theorem sinceF_run (o : Nat) (r : Nat → Option Addr) (x : Option Addr) : ∀ j, (sinceF x (tl o r (j + 1))).2 = decide (r j = x) ∧ (r j = x → ∃ s, s ≤ j ∧ (sinceF x (tl o r (j + 1))).1 = o + s ∧ (∀ i, s ≤ i → i ≤ j → r i = x) ∧ (s = 0 ∨ r (s - 1) ≠ x))
  | 0 => by
    rw [tl_succ, sinceF_snoc]
    by_cases h : r 0 = x
    · refine ⟨by simp [h, sinceF, tl], fun _ => ⟨0, Nat.le_refl _, by simp [h, sinceF, tl], fun i _ h2 => ?_, .inl rfl⟩⟩
      obtain rfl : i = 0 := by omega
      exact h
    · exact ⟨by simp [h], fun h' => absurd h' h⟩
  | j + 1 => by
    obtain ⟨h1, h2⟩ := sinceF_run o r x j
    rw [tl_succ, sinceF_snoc]
    by_cases h : r (j + 1) = x
    · by_cases hj : r j = x
      · obtain ⟨s, hs, e1, e2, e3⟩ := h2 hj
        rw [decide_eq_true hj] at h1
        refine ⟨by simp [h, h1], fun _ => ⟨s, by omega, by simp [h, h1, e1], fun i h3 h4 => ?_, e3⟩⟩
        rcases Nat.lt_or_ge i (j + 1) with h5 | h5
        · exact e2 i h3 (by omega)
        · obtain rfl : i = j + 1 := by omega
          exact h
      · rw [decide_eq_false hj] at h1
        refine ⟨by simp [h, h1], fun _ => ⟨j + 1, Nat.le_refl _, by simp [h, h1], fun i h3 h4 => ?_, .inr (by simpa using hj)⟩⟩
        obtain rfl : i = j + 1 := by omega
        exact h
    · exact ⟨by simp [h], fun h' => absurd h' h⟩

theorem Ext.others {w w' : World} (h : Ext w w') : KeepsOthers w w' := ⟨h.size, fun k o hk ho => (h.heap (Array.getElem?_eq_some_iff.1 hk).1).trans hk⟩

theorem KB.set {n₀ B : Nat} {w W : World} (h : KB n₀ B w W) {a : Addr} (ha : n₀ ≤ a.block) (hb : B ≠ a.block) (u : Value) : KB n₀ B w (W.setCell a u) := ⟨h.1.setCell ha u, (Below.heap_setCell W a u B hb).trans h.2⟩
theorem map_snoc {α : Type} {P : α → Prop} (pre : List { x : α // P x }) (p : { x : α // P x }) : (pre ++ [p]).map Subtype.val = pre.map Subtype.val ++ [p.1] := by simp

/-- Between two rounds: the two boxes. -/
def SI (n₀ : Nat) (Wl : World) (x : Option Addr) (l : List (Nat × Option Addr)) (W : World) : Prop :=
  (W.cell? ⟨n₀, 0, none⟩ = some (.int .u64 (sinceF x l).1) ∧ W.frozen? ⟨n₀, 0, none⟩ = false ∧ W.cell? ⟨n₀ + 1, 0, none⟩ = some (.bool (sinceF x l).2) ∧ W.frozen? ⟨n₀ + 1, 0, none⟩ = false) ∧ Below n₀ Wl W
theorem SI.own {n₀ B : Nat} {Wl : World} {x : Option Addr} (hn : n₀ ≤ Wl.heap.size) (hB : n₀ ≤ B) : OwnFrom B (SI n₀ Wl x) :=
  fun s A C row hs hg hr => ⟨⟨cell_kept hs.1.1 hg (fun r e => (hr r e).2), (frozen_kept hs.1.1 hg (fun r e => (hr r e).2)).trans hs.1.2.1, cell_kept hs.1.2.2.1 hg (fun r e => (hr r e).2), (frozen_kept hs.1.2.2.1 hg (fun r e => (hr r e).2)).trans hs.1.2.2.2⟩,
    ownFrom_below (β := Unit) hn hB () A C row hs.2 hg hr⟩
theorem SI.ext {n₀ : Nat} {Wl W W' : World} {x : Option Addr} {l : List (Nat × Option Addr)} (h : SI n₀ Wl x l W) (he : Ext W W') (hl : n₀ + 1 < W.heap.size) : SI n₀ Wl x l W' :=
  ⟨⟨(he.cell (by omega)).trans h.1.1, (he.frozen (by omega)).trans h.1.2.1, (he.cell hl).trans h.1.2.2.1, (he.frozen hl).trans h.1.2.2.2⟩, h.2.trans (he.below.mono (by omega))⟩
theorem SI.on {n₀ : Nat} {Wl W : World} {x : Option Addr} {l : List (Nat × Option Addr)} (h : SI n₀ Wl x l W) {e : Nat × Option Addr} (he : e.2 = x) (hg : (sinceF x l).2 = true) : SI n₀ Wl x (l ++ [e]) W := by
  have : sinceF x (l ++ [e]) = sinceF x l := by rw [sinceF_snoc, if_pos he, if_pos hg]
  unfold SI
  rw [this]
  exact h
theorem SI.stop {n₀ : Nat} {Wl W : World} {x : Option Addr} {l : List (Nat × Option Addr)} (h : SI n₀ Wl x l W) {e : Nat × Option Addr} (he : e.2 ≠ x) : SI n₀ Wl x (l ++ [e]) (W.setCell ⟨n₀ + 1, 0, none⟩ (.bool false)) := by
  have : sinceF x (l ++ [e]) = ((sinceF x l).1, false) := by rw [sinceF_snoc, if_neg he]
  unfold SI
  rw [this]
  have hne : (⟨n₀ + 1, 0, none⟩ : Addr) ≠ ⟨n₀, 0, none⟩ := by simp
  exact ⟨⟨(World.cell?_setCell_other W ⟨n₀ + 1, 0, none⟩ ⟨n₀, 0, none⟩ _ hne).trans h.1.1, by rw [World.frozen?_setCell]; exact h.1.2.1, World.cell?_setCell_same W ⟨n₀ + 1, 0, none⟩ _ h.1.2.2.1, by rw [World.frozen?_setCell]; exact h.1.2.2.2⟩,
    h.2.setCell (p := ⟨n₀ + 1, 0, none⟩) (Nat.le_succ _) _⟩
theorem SI.new {n₀ : Nat} {Wl W : World} {x : Option Addr} {l : List (Nat × Option Addr)} (h : SI n₀ Wl x l W) {e : Nat × Option Addr} (he : e.2 = x) (hg : (sinceF x l).2 = false) :
    SI n₀ Wl x (l ++ [e]) ((W.setCell ⟨n₀, 0, none⟩ (.int .u64 e.1)).setCell ⟨n₀ + 1, 0, none⟩ (.bool true)) := by
  have : sinceF x (l ++ [e]) = (e.1, true) := by rw [sinceF_snoc, if_pos he, if_neg (by rw [hg]; decide)]
  unfold SI
  rw [this]
  have hne : (⟨n₀ + 1, 0, none⟩ : Addr) ≠ ⟨n₀, 0, none⟩ := by simp
  have hne' : (⟨n₀, 0, none⟩ : Addr) ≠ ⟨n₀ + 1, 0, none⟩ := by simp
  have c1 : (W.setCell ⟨n₀, 0, none⟩ (.int .u64 e.1)).cell? ⟨n₀ + 1, 0, none⟩ = some (.bool (sinceF x l).2) := (World.cell?_setCell_other W ⟨n₀, 0, none⟩ ⟨n₀ + 1, 0, none⟩ _ hne').trans h.1.2.2.1
  exact ⟨⟨(World.cell?_setCell_other _ ⟨n₀ + 1, 0, none⟩ ⟨n₀, 0, none⟩ _ hne).trans (World.cell?_setCell_same W ⟨n₀, 0, none⟩ _ h.1.1), by rw [World.frozen?_setCell, World.frozen?_setCell]; exact h.1.2.1, World.cell?_setCell_same _ ⟨n₀ + 1, 0, none⟩ _ c1, by rw [World.frozen?_setCell, World.frozen?_setCell]; exact h.1.2.2.2⟩,
    (h.2.setCell (p := ⟨n₀, 0, none⟩) (Nat.le_refl _) _).setCell (p := ⟨n₀ + 1, 0, none⟩) (Nat.le_succ _) _⟩

/-- From where on, to k, all are as the k-th one is; not before g. -/
def RunAt {α : Type} (r : Nat → α) (g k s : Nat) : Prop := g ≤ s ∧ s ≤ k ∧ (∀ i, s ≤ i → i ≤ k → r i = r k) ∧ (s = g ∨ r (s - 1) ≠ r k)
theorem RunAt.unique {α : Type} {r : Nat → α} {g k s t : Nat} (h : RunAt r g k s) (h' : RunAt r g k t) : s = t := by
  obtain ⟨a1, a2, a3, a4⟩ := h
  obtain ⟨b1, b2, b3, b4⟩ := h'
  rcases Nat.lt_trichotomy s t with hl | rfl | hl
  · rcases b4 with rfl | b4
    · omega
    · exact absurd (a3 (t - 1) (by omega) (by omega)) b4
  · rfl
  · rcases a4 with rfl | a4
    · omega
    · exact absurd (b3 (s - 1) (by omega) (by omega)) a4
def SincePost (keep f : Nat) (ps : List (Option Addr)) (v : Nat) (w : World) (e : Ending) (w' : World) : Prop :=
  ((¬ (f ≤ v ∧ v - f < ps.length ∧ ps.length ≤ v - f + keep) ∧ e = .returned (.tuple #[.int .u64 0, .bool false])) ∨
    ((f ≤ v ∧ v - f < ps.length ∧ ps.length ≤ v - f + keep) ∧ ∃ s, e = .returned (.tuple #[.int .u64 (f + s : Nat), .bool true]) ∧ RunAt (fun i => ps.getD i none) (gone keep ps) (v - f) s)) ∧ Below w.heap.size w w'

set_option maxRecDepth 100000 in
set_option maxHeartbeats 4000000 in
theorem since_log {w : World} {L R keep f : Nat} {ps : List (Option Addr)} (h : LogAt w L R keep f (ps.map .pointer)) (hle : ∀ q ∈ ps, Leads w q) (v : Nat) (hv : v < 18446744073709551616) :
    Calls Try.prog 44 #[logV L, .int .u64 v] w (SincePost keep f ps v w) := by
  refine (callsIn_wide (n := 6)).1 ?_
  refine callsIn_of_wp_marks Try.func44 rfl trivial ?_ rfl
  simp only [Try.ntmps44, List.size_toArray, List.length_cons, List.length_nil, Nat.reduceAdd, Nat.reduceSub, Array.replicate_succ, Array.replicate_zero, List.push_toArray, List.append_toArray, List.nil_append, List.cons_append]
  gi_wp2_with fail
  have hx0 : Ext w (w.alloc (.cells #[.int .u64 v] 22)) := (Ext.refl w).alloc _ _
  have HV0 := Lib.hid (Blk.new w 22 #[.int .u64 v])
  have HL0 := Lib.hid (h.ext hx0)
  have HLE := Lib.hid hle
  have hLs := h.lt
  generalize w.alloc (.cells #[.int .u64 v] 22) = w0 at *
  have HX0 := Lib.hid hx0
  clear h hle hx0
  refine ⟨trivial, ?_⟩
  refine (callsIn_wide.2 (at_log HL0.out v hv)).mono ?_
  rintro e w1 ⟨⟨hk, rfl⟩ | ⟨x, hx, rfl⟩, hx1⟩
  · have HX1 := Lib.hid (HX0.out.trans hx1)
    rw [List.length_map] at hk
    have HKN := Lib.hid hk
    clear hx1 hk
    gi_wp2_with fail
    refine ⟨_, results_tmp2 rfl _ _ _, .inl ⟨HKN.out, rfl⟩, (HX1.out.alloc _ _).below⟩
  have HV1 := Lib.hid (HV0.out.ext hx1)
  have HL1 := Lib.hid (HL0.out.ext hx1)
  have HX1 := Lib.hid (HX0.out.trans hx1)
  have HXX := Lib.hid hx
  clear hx hx1
  gi_wp2_with fail
  have hxq : Leads w x := by
    have h4 := HXX.out.2.2.2
    rw [List.getElem?_map] at h4
    cases hg : ps[v - f]? with
    | none => rw [hg] at h4; cases h4
    | some q => rw [hg] at h4; simp at h4; subst h4; exact HLE.out _ (List.mem_of_getElem? hg)
  have hx4 : Ext w1 (((w1.alloc (.cells #[.pointer x] 30)).alloc (.cells #[.int .u64 0] 22)).alloc (.cells #[.bool false] 4)) := (((Ext.refl w1).alloc _ _).alloc _ _).alloc _ _
  obtain ⟨b1, b2, b3, hsz4⟩ : Blk (((w1.alloc (.cells #[.pointer x] 30)).alloc (.cells #[.int .u64 0] 22)).alloc (.cells #[.bool false] 4)) w1.heap.size 30 #[.pointer x] ∧
      Blk (((w1.alloc (.cells #[.pointer x] 30)).alloc (.cells #[.int .u64 0] 22)).alloc (.cells #[.bool false] 4)) (w1.heap.size + 1) 22 #[.int .u64 0] ∧
      Blk (((w1.alloc (.cells #[.pointer x] 30)).alloc (.cells #[.int .u64 0] 22)).alloc (.cells #[.bool false] 4)) (w1.heap.size + 1 + 1) 4 #[.bool false] ∧
      (((w1.alloc (.cells #[.pointer x] 30)).alloc (.cells #[.int .u64 0] 22)).alloc (.cells #[.bool false] 4)).heap.size = w1.heap.size + 3 := by
    refine ⟨((Blk.new w1 30 #[.pointer x]).alloc _).alloc _, ?_, ?_, by simp⟩
    · have := (Blk.new (w1.alloc (.cells #[.pointer x] 30)) 22 #[.int .u64 0]).alloc (.cells #[.bool false] 4)
      rwa [World.size_alloc] at this
    · have := Blk.new ((w1.alloc (.cells #[.pointer x] 30)).alloc (.cells #[.int .u64 0] 22)) 4 #[.bool false]
      rwa [World.size_alloc, World.size_alloc] at this
  have HB1 := Lib.hid b1
  have HB2 := Lib.hid b2
  have HB3 := Lib.hid b3
  have HX4 := Lib.hid (HX1.out.trans hx4)
  have HL4 := Lib.hid (HL1.out.ext hx4)
  have HV4 := Lib.hid (HV1.out.ext hx4)
  have HQ := Lib.hid hxq
  have hs1 := HX1.out.size
  have hvl1 := HV1.out.lt
  generalize ((w1.alloc (.cells #[.pointer x] 30)).alloc (.cells #[.int .u64 0] 22)).alloc (.cells #[.bool false] 4) = w4 at *
  have HSZ := Lib.hid hsz4
  clear hsz4
  clear hx4 b1 b2 b3 hxq HV0 HV1 HL0 HL1
  refine ⟨trivial, ?_⟩
  refine (callsIn_wide.2 (all_value w4 _)).mono ?_
  rintro e w5 ⟨rfl, rfl⟩
  have hx5 : Ext w4 (w4.alloc (.cells #[logV L] 23)) := (Ext.refl w4).alloc _ _
  have HBB := Lib.hid (Blk.new w4 23 #[logV L])
  have HA1 := Lib.hid (HB1.out.ext hx5)
  have HA2 := Lib.hid (HB2.out.ext hx5)
  have HA3 := Lib.hid (HB3.out.ext hx5)
  have HX5 := Lib.hid (HX4.out.trans hx5)
  have HL5 := Lib.hid (HL4.out.ext hx5)
  have HV5 := Lib.hid (HV4.out.ext hx5)
  generalize w4.alloc (.cells #[logV L] 23) = w5 at *
  clear hx5 HB1 HB2 HB3 HX4 HL4 HV4
  have hlB := HBB.out.lt
  have hn0 : w1.heap.size + 1 ≤ w5.heap.size := by have := HSZ.out; omega
  have hn1 : w1.heap.size + 1 + 1 < w5.heap.size := by have := HSZ.out; omega
  have hps : 1 ≤ ps.length := by have := HXX.out.2.1; rw [List.length_map] at this; omega
  have hleB : ∀ q ∈ ps, LeadsB (w1.heap.size + 1) w5 q := fun q hq => ⟨(HLE.out q hq).ext HX5.out, fun a e => by
    obtain ⟨c, t, hc⟩ := HLE.out q hq a e
    have := (Array.getElem?_eq_some_iff.1 hc).1
    omega⟩
  have hst := all_stopsB (w1.heap.size + 1) hn0 HL5.out (by omega) (by omega) hps hleB w4.heap.size (HBB.out.cell 0) hlB (6 - 1) (by decide)
  have HST := Lib.hid hst
  have HXQ := Lib.hid (show LeadsB (w1.heap.size + 1) w5 x from ⟨HQ.out.ext HX5.out, fun a e => by
    obtain ⟨c, t, hc⟩ := HQ.out a e
    have := (Array.getElem?_eq_some_iff.1 hc).1
    omega⟩)
  have h00 : SI (w1.heap.size + 1) w5 x [] w5 := ⟨⟨HA2.out.cell 0, HA2.out.frozen 0, HA3.out.cell 0, HA3.out.frozen 0⟩, Below.refl _ _⟩
  have H00 := Lib.hid h00
  clear hst hleB h00
  gi_wp2_with fail
  refine wpIn_rangeFunc_ownH rfl (by decide) (gf := 96) (lb := #[.pointer (some ⟨w4.heap.size, 0, none⟩)]) rfl trivial (enters_of Try.func96 (by kernel_rfl) rfl)
    HST.out KB.trans (KB.put hn0 hlB) (Below.refl _ _) (fun _ => rfl)
    (fun pre W => SI (w1.heap.size + 1) w5 x (pre.map Subtype.val) W ∧ ∀ p ∈ pre, p.1.1 ≠ v)
    (fun c pre W => c = .exit 0 ∧ SI (w1.heap.size + 1) w5 x (pre.map Subtype.val) W ∧ ∃ (pre' : List (ToldB (w1.heap.size + 1) w5)) (p : ToldB (w1.heap.size + 1) w5), pre = pre' ++ [p] ∧ p.1.1 = v)
    (fun s A C row hs hg hr => ⟨SI.own hn0 hn0 _ A C row hs.1 hg hr, hs.2⟩)
    (fun c s A C row hs hg hr => ⟨hs.1, SI.own hn0 hn0 _ A C row hs.2.1 hg hr, hs.2.2⟩)
    ⟨H00.out, fun p hp => by cases hp⟩
    (fun p a' W => ∃ Bx, w5.heap.size ≤ Bx ∧ Blk W Bx 30 #[.pointer p.1.2] ∧ a' = { tmps := #[logV L, .int .u64 v, undef, .pointer (some ⟨w.heap.size, 0, none⟩), .int .u64 0, .bool false, .pointer (some ⟨w1.heap.size, 0, none⟩), .bool true, .pointer (some ⟨w1.heap.size + 1, 0, none⟩), .pointer (some ⟨w1.heap.size + 1 + 1, 0, none⟩), .int .u64 p.1.1, .pointer (some ⟨Bx, 0, none⟩), .tuple #[.agg #[.pointer x], .bool true], logV L, .int .u64 v, .tuple #[.agg #[.pointer x], .bool true], .agg #[.pointer x], .bool true, .bool true, .bool false, logV L, .func (.func 96) #[] #[.pointer (some ⟨w4.heap.size, 0, none⟩)], .int .u64 p.1.1, .agg #[.pointer p.1.2], undef, undef, undef, undef, undef, undef, undef, undef, undef, undef, undef], defers := [] })
    (fun p a' s A C row hs hg hr => by
      obtain ⟨Bx, h1, h2, h3⟩ := hs
      exact ⟨Bx, h1, boxed_own Bx 30 (fun (_ : Unit) => Value.pointer p.1.2) () A C row h2 hg (fun r e => (hr r e).2), h3⟩)
    ?assign ?body ?done ?stop
  case assign =>
    rintro l pre p W K ⟨hI, hpv⟩ hK
    have HI := Lib.hid hI
    have HPV := Lib.hid hpv
    have HK := Lib.hid hK
    have hs5 := hI.2.size
    have HAL := Lib.hid (show Ext W (W.alloc (.cells #[.pointer p.1.2] 30)) from (Ext.refl W).alloc _ _)
    have HBN := Lib.hid (Blk.new W 30 #[.pointer p.1.2])
    clear hI hK hpv
    gi_wp2_with fail
    obtain ⟨Bx, hBx⟩ : ∃ Bx, W.heap.size = Bx := ⟨_, rfl⟩
    have HBN' := HBN.out
    rw [hBx] at HBN' ⊢
    refine HK.out _ _ (HAL.out.others.from _) ⟨HAL.out.below.mono (by omega), HAL.out.heap (by omega)⟩ ⟨HI.out.ext HAL.out (by omega), HPV.out⟩ ⟨Bx, by omega, HBN', rfl⟩
  case body =>
    rintro l pre p a' W hl ⟨r, hr⟩ ⟨hI, hpv⟩ ⟨Bx, hBx, hbx, rfl⟩ hlen
    have hst := hI.2
    have c6 : W.cell? ⟨w1.heap.size, 0, none⟩ = some (.pointer x) := (hst.cell (p := ⟨w1.heap.size, 0, none⟩) (Nat.lt_succ_self _)).trans (HA1.out.cell 0)
    have c3 : W.cell? ⟨w.heap.size, 0, none⟩ = some (.int .u64 v) := (hst.cell (p := ⟨w.heap.size, 0, none⟩) (by show w.heap.size < w1.heap.size + 1; omega)).trans (HV5.out.cell 0)
    have cx : W.cell? ⟨Bx, 0, none⟩ = some (.pointer p.1.2) := hbx.cell 0
    have lx := HXQ.out.agree hst
    have lp := p.2.2.agree hst
    have hsW := hst.size
    have hc := is_any W p.1.2 x lp lx
    have HI := Lib.hid hI
    have HPV := Lib.hid hpv
    have HC := Lib.hid hc
    have hBxl := hbx.lt
    clear hI hpv hst lx lp hbx hc hr
    gi_wp2_with fail
    refine ⟨trivial, ?_⟩
    refine (CallsIn.inRound l (callsIn_wide.2 HC.out)).mono ?_
    rintro e W5 ⟨rfl, hx5⟩
    have hsi5 := HI.out.ext hx5 (by omega)
    obtain ⟨⟨c8, f8, c9, f9⟩, -⟩ := id hsi5
    have hk5 : KB (w1.heap.size + 1) w4.heap.size W W5 := ⟨hx5.below.mono (by omega), hx5.heap (by omega)⟩
    have c35 : W5.cell? ⟨w.heap.size, 0, none⟩ = some (.int .u64 v) := (hx5.cell (by omega)).trans c3
    have hne1 : w4.heap.size ≠ w1.heap.size + 1 := by have := HSZ.out; omega
    have hne2 : w4.heap.size ≠ w1.heap.size + 1 + 1 := by have := HSZ.out; omega
    have HSI := Lib.hid hsi5
    have HK5 := Lib.hid hk5
    have HX55 := Lib.hid hx5
    clear hsi5 hk5 hx5 c3 c6 cx
    by_cases hpx : p.1.2 = x
    · rw [decide_eq_true hpx]
      by_cases hg : (sinceF x (pre.map Subtype.val)).2 = true
      · rw [hg] at c9
        have hS' : SI (w1.heap.size + 1) w5 x ((pre ++ [p]).map Subtype.val) (W5) := by
          rw [map_snoc]
          exact HSI.out.on hpx hg
        have hO' : KeepsFrom w5.heap.size W (W5) := (HX55.out.others).from _
        have hK' : KB (w1.heap.size + 1) w4.heap.size W (W5) := HK5.out
        have HS' := Lib.hid hS'
        have HO' := Lib.hid hO'
        have HK' := Lib.hid hK'
        clear hS' hO' hK'
        by_cases hpe : p.1.1 = v
        · have hpe' : (p.1.1 : Int) = (v : Int) := by omega
          have hS2 := HS'.out
          have hO2 := HO'.out
          try rw [hpe] at hS2 hO2
          have HS2 := Lib.hid hS2
          have HO2 := Lib.hid hO2
          clear hS2 hO2
          gi_wp2_with fail
          exact ⟨HO2.out, rfl, HS2.out, pre, p, rfl, hpe⟩
        · have hpe' : ((p.1.1 : Int) == (v : Int)) = false := beq_eq_false_iff_ne.2 (by omega)
          have hpe2 : ¬ (p.1.1 : Int) = (v : Int) := by omega
          gi_wp2_with fail
          exact ⟨HO'.out, HK'.out, HS'.out, fun q hq => (List.mem_append.1 hq).elim (HPV.out q) fun h => by rw [List.mem_singleton.1 h]; exact hpe⟩
      · have hg' : (sinceF x (pre.map Subtype.val)).2 = false := by simpa using hg
        rw [hg'] at c9
        have hS' : SI (w1.heap.size + 1) w5 x ((pre ++ [p]).map Subtype.val) ((W5.setCell ⟨w1.heap.size + 1, 0, none⟩ (.int .u64 p.1.1)).setCell ⟨w1.heap.size + 1 + 1, 0, none⟩ (.bool true)) := by
          rw [map_snoc]
          exact HSI.out.new hpx hg'
        have hO' : KeepsFrom w5.heap.size W ((W5.setCell ⟨w1.heap.size + 1, 0, none⟩ (.int .u64 p.1.1)).setCell ⟨w1.heap.size + 1 + 1, 0, none⟩ (.bool true)) := ((HX55.out.others.trans (KeepsOthers.setCell _ _ _)).trans (KeepsOthers.setCell _ _ _)).from _
        have hK' : KB (w1.heap.size + 1) w4.heap.size W ((W5.setCell ⟨w1.heap.size + 1, 0, none⟩ (.int .u64 p.1.1)).setCell ⟨w1.heap.size + 1 + 1, 0, none⟩ (.bool true)) := (HK5.out.set (a := ⟨w1.heap.size + 1, 0, none⟩) (Nat.le_refl _) hne1 _).set (a := ⟨w1.heap.size + 1 + 1, 0, none⟩) (Nat.le_succ _) hne2 _
        have HS' := Lib.hid hS'
        have HO' := Lib.hid hO'
        have HK' := Lib.hid hK'
        clear hS' hO' hK'
        by_cases hpe : p.1.1 = v
        · have hpe' : (p.1.1 : Int) = (v : Int) := by omega
          have hS2 := HS'.out
          have hO2 := HO'.out
          try rw [hpe] at hS2 hO2
          have HS2 := Lib.hid hS2
          have HO2 := Lib.hid hO2
          clear hS2 hO2
          gi_wp2_with fail
          exact ⟨HO2.out, rfl, HS2.out, pre, p, rfl, hpe⟩
        · have hpe' : ((p.1.1 : Int) == (v : Int)) = false := beq_eq_false_iff_ne.2 (by omega)
          have hpe2 : ¬ (p.1.1 : Int) = (v : Int) := by omega
          gi_wp2_with fail
          exact ⟨HO'.out, HK'.out, HS'.out, fun q hq => (List.mem_append.1 hq).elim (HPV.out q) fun h => by rw [List.mem_singleton.1 h]; exact hpe⟩
    · rw [decide_eq_false hpx]
      have hS' : SI (w1.heap.size + 1) w5 x ((pre ++ [p]).map Subtype.val) (W5.setCell ⟨w1.heap.size + 1 + 1, 0, none⟩ (.bool false)) := by
        rw [map_snoc]
        exact HSI.out.stop hpx
      have hO' : KeepsFrom w5.heap.size W (W5.setCell ⟨w1.heap.size + 1 + 1, 0, none⟩ (.bool false)) := (HX55.out.others.trans (KeepsOthers.setCell _ _ _)).from _
      have hK' : KB (w1.heap.size + 1) w4.heap.size W (W5.setCell ⟨w1.heap.size + 1 + 1, 0, none⟩ (.bool false)) := HK5.out.set (a := ⟨w1.heap.size + 1 + 1, 0, none⟩) (Nat.le_succ _) hne2 _
      have HS' := Lib.hid hS'
      have HO' := Lib.hid hO'
      have HK' := Lib.hid hK'
      clear hS' hO' hK'
      by_cases hpe : p.1.1 = v
      · have hpe' : (p.1.1 : Int) = (v : Int) := by omega
        have hS2 := HS'.out
        have hO2 := HO'.out
        try rw [hpe] at hS2 hO2
        have HS2 := Lib.hid hS2
        have HO2 := Lib.hid hO2
        clear hS2 hO2
        gi_wp2_with fail
        exact ⟨HO2.out, rfl, HS2.out, pre, p, rfl, hpe⟩
      · have hpe' : ((p.1.1 : Int) == (v : Int)) = false := beq_eq_false_iff_ne.2 (by omega)
        have hpe2 : ¬ (p.1.1 : Int) = (v : Int) := by omega
        gi_wp2_with fail
        exact ⟨HO'.out, HK'.out, HS'.out, fun q hq => (List.mem_append.1 hq).elim (HPV.out q) fun h => by rw [List.mem_singleton.1 h]; exact hpe⟩
  case done =>
    rintro D ys W hD hys ⟨hI, hpv⟩ hK
    exfalso
    obtain ⟨k1, k2, k3, k4⟩ := HXX.out
    rw [List.length_map] at k2 k3
    have hgl : gone keep ps ≤ v - f := by unfold gone; omega
    have hkm : v - f - gone keep ps < min ps.length keep := by unfold gone at *; omega
    have h1 := toldL_at (f := f) hkm
    rw [← hys, List.getElem?_map] at h1
    cases hg : ys[v - f - gone keep ps]? with
    | none => rw [hg] at h1; cases h1
    | some q =>
      rw [hg] at h1
      simp only [Option.map_some, Option.some.injEq] at h1
      apply hpv q (List.mem_of_getElem? hg)
      rw [h1]
      show f + gone keep ps + (v - f - gone keep ps) = v
      omega
  case stop =>
    rintro D c pre W hD hSp ⟨rfl, hI, pre', p, rfl, hp⟩ hK
    obtain ⟨k1, k2, k3, k4⟩ := HXX.out
    rw [List.length_map] at k2 k3
    obtain ⟨tls, htl⟩ := hSp
    have h1 : (toldL keep f ps)[pre'.length]? = some p.1 := by
      rw [← htl, List.map_append, List.append_assoc, List.getElem?_append_right (by simp)]; simp
    have hlt : pre'.length < min ps.length keep := by
      rw [← toldL_len keep f]; exact (List.getElem?_eq_some_iff.1 h1).1
    rw [toldL_at hlt] at h1
    simp only [Option.some.injEq] at h1
    have hv' : f + gone keep ps + pre'.length = v := by rw [← hp, ← h1]
    have hvf : gone keep ps + pre'.length = v - f := by omega
    have hl : (pre' ++ [p]).map Subtype.val = tl (f + gone keep ps) (fun i => ps.getD (gone keep ps + i) none) (pre'.length + 1) := by
      have e1 : (pre' ++ [p]).map Subtype.val = (toldL keep f ps).take (pre'.length + 1) := by
        rw [← htl, List.take_append_of_le_length (by simp), List.take_of_length_le (by simp)]
      rw [e1]
      unfold toldL tl
      rw [← List.map_take, List.take_range, Nat.min_eq_left (by omega)]
    have hxr : (fun i => ps.getD (gone keep ps + i) none) pre'.length = x := by
      show ps.getD (gone keep ps + pre'.length) none = x
      rw [hvf, List.getD_eq_getElem?_getD]
      rw [List.getElem?_map] at k4
      cases hg : ps[v - f]? with
      | none => rw [hg] at k4; cases k4
      | some q => rw [hg] at k4; simp at k4; rw [k4]; rfl
    obtain ⟨-, hrun⟩ := sinceF_run (f + gone keep ps) (fun i => ps.getD (gone keep ps + i) none) x pre'.length
    obtain ⟨s, hs1, hs2, hs3, hs4⟩ := hrun hxr
    rw [← hl] at hs2
    have hxx : ps.getD (v - f) none = x := by rw [← hvf]; exact hxr
    have HRUN := Lib.hid (show RunAt (fun i => ps.getD i none) (gone keep ps) (v - f) (gone keep ps + s) from
      ⟨Nat.le_add_right _ _, by omega, fun i h1 h2 => by
        show ps.getD i none = ps.getD (v - f) none
        have := hs3 (i - gone keep ps) (by omega) (by omega)
        rw [show gone keep ps + (i - gone keep ps) = i from by omega] at this
        rw [this, hxx], by
        show gone keep ps + s = gone keep ps ∨ ps.getD (gone keep ps + s - 1) none ≠ ps.getD (v - f) none
        rcases Nat.eq_zero_or_pos s with h0 | h0
        · left; omega
        · right
          rcases hs4 with h5 | h5
          · omega
          · rw [hxx, show gone keep ps + s - 1 = gone keep ps + (s - 1) from by omega]; exact h5⟩)
    obtain ⟨⟨c8, f8, c9, f9⟩, hb⟩ := hI
    rw [hs2] at c8
    have HB := Lib.hid hb
    have HK := Lib.hid hK
    have HKEPT := Lib.hid (show f ≤ v ∧ v - f < ps.length ∧ ps.length ≤ v - f + keep from ⟨k1, k2, k3⟩)
    have hsz := hb.size
    clear hrun hs2 hs3 hs4 hl hxr hxx h1 hlt hv' hvf k1 k2 k3 k4 htl hb hK c9 f9 hp
    gi_wp2_with fail
    have hwn : w.heap.size ≤ w1.heap.size + 1 := by omega
    have hwD : w.heap.size ≤ D := by have := HX5.out.size; omega
    refine ⟨by simp, .inl ⟨_, _, rfl, run_takeDeferred HK.out, ?_⟩⟩
    refine ⟨_, results_tmp2 rfl _ _ _, .inr ⟨HKEPT.out, gone keep ps + s, ?_, HRUN.out⟩, ((HX5.out.below.trans (HB.out.mono hwn)).trans (belowK_b (w := w) (Nat.le_refl _) W D _ _ hwD HK.out rfl rfl))⟩
    rw [show ((f + (gone keep ps + s) : Nat) : Int) = (f : Int) + (gone keep ps : Int) + (s : Int) from by omega]
    rfl
end Go.Proofs.Ytpapoalgocmlaaa
