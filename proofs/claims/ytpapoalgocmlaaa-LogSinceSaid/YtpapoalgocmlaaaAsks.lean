/- law19.asks: is a version told as the list says? -/
import Derived.Test.YtpapoalgocmlaaaPut19
namespace Go.Proofs.Ytpapoalgocmlaaa
open Go.RowKit
set_option linter.unusedVariables false
set_option linter.unusedSimpArgs false

def rootP (a b c d : Nat) : Nat → Option Addr
  | 1 => some ⟨a, 0, none⟩
  | 2 => some ⟨b, 0, none⟩
  | 3 => some ⟨c, 0, none⟩
  | 4 => some ⟨d, 0, none⟩
  | _ => none
theorem rootP_row (a b c d k : Nat) (hk : k < 5) : (rowT a b c d)[k]? = some (.pointer (rootP a b c d k)) := by
  match k, hk with
  | 0, _ => rfl
  | 1, _ => rfl
  | 2, _ => rfl
  | 3, _ => rfl
  | 4, _ => rfl
theorem rootP_inj {a b c d k l : Nat} (hk : k < 5) (hl : l < 5) (h1 : a < b) (h2 : b < c) (h3 : c < d) (h : rootP a b c d k = rootP a b c d l) : k = l := by
  match k, hk, l, hl with
  | 0, _, 0, _ | 1, _, 1, _ | 2, _, 2, _ | 3, _, 3, _ | 4, _, 4, _ => rfl
  | 0, _, 1, _ | 0, _, 2, _ | 0, _, 3, _ | 0, _, 4, _ | 1, _, 0, _ | 2, _, 0, _ | 3, _, 0, _ | 4, _, 0, _ => simp [rootP] at h
  | 1, _, 2, _ | 1, _, 3, _ | 1, _, 4, _ | 2, _, 1, _ | 2, _, 3, _ | 2, _, 4, _ | 3, _, 1, _ | 3, _, 2, _ | 3, _, 4, _ | 4, _, 1, _ | 4, _, 2, _ | 4, _, 3, _ => simp [rootP] at h <;> omega
def psOf (a b c d : Nat) (ns : List Nat) : List (Option Addr) := ns.map (rootP a b c d)
theorem psOf_at {a b c d i : Nat} {ns : List Nat} (h : i < ns.length) : (psOf a b c d ns).getD i none = rootP a b c d (ns.getD i 0) := by
  simp [psOf, h]
theorem runAt_ns {a b c d g k s : Nat} {ns : List Nat} (hn : ∀ k ∈ ns, k < 5) (h1 : a < b) (h2 : b < c) (h3 : c < d) (hk : k < ns.length) (h : RunAt (fun i => ns.getD i 0) g k s) : RunAt (fun i => (psOf a b c d ns).getD i none) g k s := by
  obtain ⟨e1, e2, e3, e4⟩ := h
  have hin : ∀ i, i < ns.length → ns.getD i 0 < 5 := fun i hi => by
    rw [List.getD_eq_getElem?_getD, List.getElem?_eq_getElem hi]; exact hn _ (List.getElem_mem _)
  refine ⟨e1, e2, fun i i1 i2 => ?_, e4.imp id fun h => ?_⟩
  · show (psOf a b c d ns).getD i none = (psOf a b c d ns).getD k none
    rw [psOf_at (by omega), psOf_at hk, show ns.getD i 0 = ns.getD k 0 from e3 i i1 i2]
  · show (psOf a b c d ns).getD (s - 1) none ≠ (psOf a b c d ns).getD k none
    rw [psOf_at (by omega), psOf_at hk]
    intro e
    exact h (rootP_inj (hin _ (by omega)) (hin _ hk) h1 h2 h3 e)

theorem root_any (w : World) (p : Option Addr) : Calls Try.prog 66 #[.agg #[.pointer p]] w fun e w' => e = .returned (.pointer p) ∧ Ext w w' := by
  go_enter Try.func66, Try.ntmps66
  go_wp2_with fail
  go_ret
  exact ⟨rfl, (Ext.refl w).alloc _ _⟩

set_option maxRecDepth 100000 in
set_option maxHeartbeats 4000000 in
theorem asks_any {w : World} {L R keep f P T a b c d : Nat} {ns : List Nat} {sv sn : Sl} (hl : LogAt w L R keep f ((psOf a b c d ns).map .pointer)) (hr : RefL w P keep f ns sv sn) (hT : Blk w T 30 (rowT a b c d).toArray)
    (hn : ∀ k ∈ ns, k < 5) (hle : ∀ q ∈ psOf a b c d ns, Leads w q) (h1 : a < b) (h2 : b < c) (h3 : c < d) (v : Nat) (hv : v < 18446744073709551616) :
    Calls Try.prog 42 #[logV L, .pointer (some ⟨P, 0, none⟩), .slice (some ⟨T, 0, none⟩) 5 5, .int .u64 v] w fun e w' => e = .returned (.bool true) ∧ Below w.heap.size w w' := by
  have hpl : (psOf a b c d ns).length = ns.length := by simp [psOf]
  have HLW := Lib.hid hl
  have HRW := Lib.hid hr
  have HTW := Lib.hid hT
  have HN := Lib.hid hn
  have HLE := Lib.hid hle
  have hat := at_log hl v hv
  have HPL := Lib.hid hpl
  clear hl hr hT hn hle hpl
  go_enter Try.func42, Try.ntmps42
  go_wp2_with fail
  refine hat.mono ?_
  rintro e w1 ⟨⟨hk, rfl⟩ | ⟨x, hx, rfl⟩, hx1⟩
  · rw [List.length_map, HPL.out] at hk
    have HK := Lib.hid hk
    clear hk hat
    go_wp2_with fail
    have hx2 : Ext w (w1.alloc (.cells #[.pointer none] 30)) := hx1.alloc _ _
    have hb2 := Blk.new w1 30 #[.pointer none]
    generalize w1.alloc (.cells #[.pointer none] 30) = w2 at *
    have HX2 := Lib.hid hx2
    have HB2 := Lib.hid hb2
    clear hx1 hx2 hb2
    refine (since_log (HLW.out.ext HX2.out) (fun q hq => (HLE.out q hq).ext HX2.out) v hv).mono ?_
    rintro e w3 ⟨⟨-, rfl⟩ | ⟨hk', -⟩, hx3⟩
    rotate_left
    · rw [HPL.out] at hk'; exact absurd hk' HK.out
    have c9 : w3.cell? ⟨w1.heap.size, 0, none⟩ = some (.pointer none) := (hx3.cell (p := ⟨w1.heap.size, 0, none⟩) HB2.out.lt).trans (HB2.out.cell 0)
    have hl9 : w1.heap.size < w3.heap.size := Nat.lt_of_lt_of_le HB2.out.lt hx3.size
    have HX3 := Lib.hid hx3
    clear hx3
    go_wp2_with fail
    refine (at19 ((HRW.out.ext HX2.out).below HX3.out) v).mono ?_
    rintro e w4 ⟨⟨-, rfl⟩ | ⟨hk', -⟩, hx4⟩
    rotate_left
    · exact absurd hk' HK.out
    have c94 := (hx4.cell (o := 0) hl9).trans c9
    have HX4 := Lib.hid hx4
    clear hx4 c9
    go_wp2_with fail
    refine (root_any w4 none).mono ?_
    rintro e w5 ⟨rfl, hx5⟩
    have HX5 := Lib.hid hx5
    clear hx5
    go_wp2_with fail
    go_ret
    exact ⟨rfl, (HX2.out.below.trans (HX3.out.mono HX2.out.size)).trans ((HX4.out.trans HX5.out).below.mono (Nat.le_trans HX2.out.size HX3.out.size))⟩
  · obtain ⟨k1, k2, k3, k4⟩ := hx
    rw [List.length_map, HPL.out] at k2 k3
    obtain ⟨j, hj⟩ : ∃ j, v - f = j := ⟨_, rfl⟩
    have hjx : rootP a b c d (ns.getD j 0) = x := by
      rw [hj, List.getElem?_map] at k4
      rw [← psOf_at (by omega)]
      cases hg : (psOf a b c d ns)[j]? with
      | none => rw [hg] at k4; cases k4
      | some q => rw [hg] at k4; simp at k4; rw [List.getD_eq_getElem?_getD, hg]; exact k4
    obtain ⟨n, hnj⟩ : ∃ n, ns.getD j 0 = n := ⟨_, rfl⟩
    have hn5 : n < 5 := by
      rw [← hnj, List.getD_eq_getElem?_getD, List.getElem?_eq_getElem (by omega : j < ns.length)]; exact HN.out _ (List.getElem_mem _)
    rw [hnj] at hjx
    have HK := Lib.hid (show f ≤ v ∧ v - f < ns.length ∧ ns.length ≤ v - f + keep from ⟨k1, k2, k3⟩)
    have HJ := Lib.hid hj
    have HNJ := Lib.hid hnj
    have HJX := Lib.hid hjx
    clear hat k1 k2 k3 k4 hj hnj hjx
    go_wp2_with fail
    have hx2 : Ext w (w1.alloc (.cells #[.pointer x] 30)) := hx1.alloc _ _
    have hb2 := Blk.new w1 30 #[.pointer x]
    generalize w1.alloc (.cells #[.pointer x] 30) = w2 at *
    have HX2 := Lib.hid hx2
    have HB2 := Lib.hid hb2
    clear hx1 hx2 hb2
    refine (since_log (HLW.out.ext HX2.out) (fun q hq => (HLE.out q hq).ext HX2.out) v hv).mono ?_
    rintro e w3 ⟨⟨hk', -⟩ | ⟨-, s, rfl, hrun⟩, hx3⟩
    · rw [HPL.out] at hk'; exact absurd HK.out hk'
    rw [HJ.out] at hrun
    obtain ⟨y, hy⟩ : ∃ y, f + s = y := ⟨_, rfl⟩
    rw [hy]
    have HY := Lib.hid hy
    clear hy
    have hr3 := (HRW.out.ext HX2.out).below hx3
    have hT3 : Blk w3 T 30 (rowT a b c d).toArray := (HTW.out.ext HX2.out).agree (Agree.of_below hx3 (F := Lt w2.heap.size) fun _ h => h) (HTW.out.ext HX2.out).lt
    have c9 : w3.cell? ⟨w1.heap.size, 0, none⟩ = some (.pointer x) := (hx3.cell (p := ⟨w1.heap.size, 0, none⟩) HB2.out.lt).trans (HB2.out.cell 0)
    have hl9 : w1.heap.size < w3.heap.size := Nat.lt_of_lt_of_le HB2.out.lt hx3.size
    have HX3 := Lib.hid hx3
    have HR3 := Lib.hid hr3
    have HT3 := Lib.hid hT3
    have HRUN := Lib.hid hrun
    clear hx3 hr3 hT3 hrun
    have hjl : j < ns.length := by have h1 := HK.out; have h2 := HJ.out; omega
    have hsl : s ≤ j := HRUN.out.2.1
    go_wp2_with fail
    refine (at19 HR3.out v).mono ?_
    rintro e w4 ⟨⟨hk', -⟩ | ⟨-, rfl⟩, hx4⟩
    · exact absurd HK.out hk'
    rw [HJ.out]
    have hr4 := HR3.out.ext hx4
    have z0 := (hx4.cell (o := 0) hl9).trans c9
    have l0 : w1.heap.size < w4.heap.size := Nat.lt_of_lt_of_le hl9 hx4.size
    obtain ⟨-, z1, z2⟩ := hr4.blk.c3
    obtain ⟨bv, ov, hs1, -, hc1⟩ := id hr4.rv
    obtain ⟨bn, on, hs2, -, hc2⟩ := id hr4.rn
    obtain ⟨ha1, -, -⟩ := hs1.eq (by omega)
    obtain ⟨ha2, -, -⟩ := hs2.eq (by omega)
    have l1 := hr4.blk.lt
    have l2 : bv < w4.heap.size := (hs1.fits (by omega)).1
    have l3 : bn < w4.heap.size := (hs2.fits (by omega)).1
    have z3 := hc1 s _ (verV_at (by omega))
    have z4 := hc2 j _ (numV_at hjl)
    rw [HNJ.out] at z4
    have hT4 := HT3.out.ext hx4
    have z5 : w4.cell? ⟨T, n, none⟩ = some (.pointer x) := by
      rw [hT4.cell]; simpa [HJX.out] using rootP_row a b c d n hn5
    have l4 := hT4.lt
    rw [ha1] at z1
    rw [ha2] at z2
    obtain ⟨m, hm⟩ : ∃ m, ns.length = m := ⟨_, rfl⟩
    have hsi : ∀ W, Ext w4 W → Calls Try.prog 98 #[.pointer (some ⟨P, 0, none⟩), .int .u64 v] W fun e w' => e = .returned (.int .i64 s) ∧ Ext W w' := fun W hW =>
      (since19 (hr4.ext hW) v HK.out).mono fun e w' ⟨⟨s', h1', h2'⟩, h3'⟩ => by
        rw [HJ.out] at h2'
        have hu := runAt_ns HN.out h1 h2 h3 hjl h2'
        have e1 : gone keep (psOf a b c d ns) = ns.length - min ns.length keep := by unfold gone; rw [HPL.out]
        have := HRUN.out
        rw [e1] at this
        exact ⟨by rw [h1', RunAt.unique hu this], h3'⟩
    have HSI := Lib.hid hsi
    have HX4 := Lib.hid hx4
    rw [hm] at z1 z2 hjl
    rw [HY.out] at z3
    have b1 : (j : Int) < (m : Int) := by omega
    have b2 : (n : Int) < 5 := by omega
    have b3 : (s : Int) < (m : Int) := by omega
    have b4 : decide ((j : Int) < 0) = false := decide_eq_false (by omega)
    clear hx4 hr4 hs1 hc1 hs2 hc2 ha1 ha2 hT4 hsi hm c9 hl9
    go_wp2_with fail
    go_region_held3 (fun w' => w'.cell? ⟨w1.heap.size, 0, none⟩ = some (.pointer x) ∧ w'.cell? ⟨P, 1, none⟩ = some (.slice (some ⟨bv, ov, none⟩) m sv.c) ∧ w'.cell? ⟨P, 2, none⟩ = some (.slice (some ⟨bn, on, none⟩) m sn.c) ∧ w'.cell? ⟨bv, ov + s, none⟩ = some (.int .u64 (y : Nat)) ∧ w'.cell? ⟨bn, on + j, none⟩ = some (.int .i64 (n : Nat)) ∧ w'.cell? ⟨T, n, none⟩ = some (.pointer x)) (go_keep)
      (first
        | (go_at_call 98; refine (HSI.out _ ((Ext.refl w4).drew.trans hx5)).mono ?_; rintro e w6 ⟨rfl, hx6⟩; have z0 := (hx6.cell (o := 0) l0).trans z0; have z1 := (hx6.cell (o := 1) l1).trans z1; have z2 := (hx6.cell (o := 2) l1).trans z2; have z3 := (hx6.cell (o := ov + s) l2).trans z3; have z4 := (hx6.cell (o := on + j) l3).trans z4; have z5 := (hx6.cell (o := n) l4).trans z5)
        | (go_at_call 35; refine (is_same _ x).mono ?_; rintro e w5 ⟨rfl, hx5⟩; have z0 := (hx5.cell (o := 0) l0).trans z0; have z1 := (hx5.cell (o := 1) l1).trans z1; have z2 := (hx5.cell (o := 2) l1).trans z2; have z3 := (hx5.cell (o := ov + s) l2).trans z3; have z4 := (hx5.cell (o := on + j) l3).trans z4; have z5 := (hx5.cell (o := n) l4).trans z5; have l0 := Nat.lt_of_lt_of_le l0 hx5.size; have l1 := Nat.lt_of_lt_of_le l1 hx5.size; have l2 := Nat.lt_of_lt_of_le l2 hx5.size; have l3 := Nat.lt_of_lt_of_le l3 hx5.size; have l4 := Nat.lt_of_lt_of_le l4 hx5.size))
    go_wp2_with fail
    go_ret
    exact ⟨rfl, (HX2.out.below.trans (HX3.out.mono HX2.out.size)).trans ((HX4.out.trans (((Ext.refl w4).drew.trans hx5).trans hx6)).below.mono (Nat.le_trans HX2.out.size HX3.out.size))⟩
end Go.Proofs.Ytpapoalgocmlaaa
