/- The document's log: Put of the next version. -/
import Derived.Test.YtpapoalgocmlaaaRef19
namespace Go.Proofs.Ytpapoalgocmlaaa
open Go.RowKit
set_option linter.unusedVariables false
set_option linter.unusedSimpArgs false

theorem Try.infoU64 : (Try.prog.info? 22).map (fun i => (i.zero, i.size, i.bytes)) = some (some (.int .u64 0), 1, 8) := by kernel_rfl
theorem Try.infoInt : (Try.prog.info? 3).map (fun i => (i.zero, i.size, i.bytes)) = some (some (.int .i64 0), 1, 8) := by kernel_rfl
theorem verV_one (f n : Nat) : ∀ u ∈ verV f n, u.oneCell' = true := by
  intro u hu
  simp only [verV, List.mem_map] at hu
  obtain ⟨j, -, rfl⟩ := hu
  rfl
theorem numV_one (ns : List Nat) : ∀ u ∈ numV ns, u.oneCell' = true := by
  intro u hu
  simp only [numV, List.mem_map] at hu
  obtain ⟨j, -, rfl⟩ := hu
  rfl
/-- What the document's Put leaves. -/
def Put19Post (P keep f : Nat) (ns : List Nat) (k : Nat) (w : World) (e : Ending) (w' : World) : Prop :=
  e = .returned (.int .i64 0) ∧ (∃ sv sn, RefL w' P keep f (ns ++ [k]) sv sn) ∧ Agree (fun b => b < w.heap.size ∧ b ≠ P) w w' ∧ w.heap.size ≤ w'.heap.size ∧ ∀ a : World, Ext a w → a.heap.size ≤ P → Ext a w'

theorem two_ext {W0 w1 w2 : World} {s1 : Sl} {e n : Nat} {xs : List Value} {u : Value} {t : TypeId} (h1 : Wr W0 w1 none) (ho : w1.ownsRow W0.heap.size e 1 (.slice s1.a n s1.c) n xs) (h2 : Wr (w1.alloc (.cells #[u] t)) w2 s1.row) : Ext W0 w2 :=
  (((Ext.refl W0).wr h1 (fun i h => by cases h)).alloc _ _).wr h2 (fun i hi => (own_row ho hi).1)

theorem rd_set3 {W0 w2 : World} {P : Nat} {s : Sl} {n : Nat} {cs : List Value} (h : Rd W0 (fun b => b < W0.heap.size ∧ P < b) 1 s n cs) (he : Ext W0 w2) {p : Addr} (hp : p.block = P) (u : Value) :
    Rd (w2.setCell p u) (fun b => b < (w2.setCell p u).heap.size ∧ P < b) 1 s n cs :=
  ((h.agree (he.agree fun i hi => hi.1)).agree (Agree.setCell w2 p u (fun hi => by have : P < p.block := hi.2; omega))).mono fun i hi => ⟨by simpa using Nat.lt_of_lt_of_le hi.1 he.size, hi.2⟩

theorem put19_end {w W0 w2 w5 : World} {P keep f m v k et et' : Nat} {ns : List Nat} {sv sn s2 s4 : Sl} (hH : RefL w P keep f ns sv sn) (hm : ns.length = m) (hv : v = f + m) (hm1 : m < 1000) (hvm : v ≤ 4611686018427387903) (hW0 : Ext w W0) (e2 : Ext W0 w2)
    (o2 : w2.ownsRow W0.heap.size et 1 (.slice s2.a (m + 1) s2.c) (m + 1) (verV f m ++ [.int .u64 v])) (e5 : Ext (w2.setCell ⟨P, 1, none⟩ (.slice s2.a (m + 1) s2.c)) w5)
    (o4 : w5.ownsRow (w2.setCell ⟨P, 1, none⟩ (.slice s2.a (m + 1) s2.c)).heap.size et' 1 (.slice s4.a (m + 1) s4.c) (m + 1) (numV ns ++ [.int .i64 k])) :
    Put19Post P keep f ns k w (.returned (.int .i64 0)) (w5.setCell ⟨P, 2, none⟩ (.slice s4.a (m + 1) s4.c)) := by
  have hP := hH.blk.lt
  have z1 : (w2.setCell ⟨P, 1, none⟩ (.slice s2.a (m + 1) s2.c)).heap.size = w2.heap.size := by simp
  have z2 : (w5.setCell ⟨P, 2, none⟩ (.slice s4.a (m + 1) s4.c)).heap.size = w5.heap.size := by simp
  have s0 := hW0.size
  have s1 := e2.size
  have s5 := e5.size
  rw [z1] at s5
  have hlen : (ns ++ [k]).length = m + 1 := by simp [hm]
  refine ⟨rfl, ⟨s2, s4, ⟨?_, ?_, ?_, by rw [hlen]; omega, by rw [hlen]; omega, hH.keep1⟩⟩, ?_, by rw [z2]; omega, fun a ha hp => ?_⟩
  · have := ((((hH.blk.ext hW0).ext e2).set_ 1 (.slice s2.a (m + 1) s2.c)).ext e5).set_ 2 (.slice s4.a (m + 1) s4.c)
    rw [hlen]
    exact this
  · have r1 := Rd.of_own o2
    have r2 := r1.agree (Agree.setCell w2 ⟨P, 1, none⟩ (.slice s2.a (m + 1) s2.c) (fun hi => by have : W0.heap.size ≤ P := hi.1; omega))
    have r3 := r2.agree (e5.agree fun i hi => by rw [z1]; exact hi.2)
    have r4 := r3.agree (Agree.setCell w5 ⟨P, 2, none⟩ (.slice s4.a (m + 1) s4.c) (fun hi => by have : W0.heap.size ≤ P := hi.1; omega))
    rw [hlen, verV_succ, ← hv]
    exact r4.mono fun i hi => ⟨by rw [z2]; have := hi.2; omega, by have := hi.1; omega⟩
  · have r1 := Rd.of_own o4
    have r4 := r1.agree (Agree.setCell w5 ⟨P, 2, none⟩ (.slice s4.a (m + 1) s4.c) (fun hi => by have : (w2.setCell ⟨P, 1, none⟩ (.slice s2.a (m + 1) s2.c)).heap.size ≤ P := hi.1; rw [z1] at this; omega))
    rw [hlen, show numV (ns ++ [k]) = numV ns ++ [.int .i64 k] from by simp [numV]]
    exact r4.mono fun i hi => ⟨by rw [z2]; exact hi.2, by have := hi.1; rw [z1] at this; omega⟩
  · exact ((((hW0.trans e2).agree fun i hi => hi.1).trans (Agree.setCell w2 ⟨P, 1, none⟩ _ (fun hi => hi.2 rfl))).trans (e5.agree fun i hi => by rw [z1]; have := hi.1; omega)).trans (Agree.setCell w5 ⟨P, 2, none⟩ _ (fun hi => hi.2 rfl))
  · exact (((((ha.trans hW0).trans e2).set2 hp 1 _).trans e5).set2 hp 2 _)

set_option maxRecDepth 100000 in
set_option maxHeartbeats 4000000 in
theorem put19 {w : World} {P keep f : Nat} {ns : List Nat} {sv sn : Sl} (h : RefL w P keep f ns sv sn) (hfew : ns.length < 1000) (v k : Nat) (hv : v = f + ns.length) (hvm : v ≤ 4611686018427387903) :
    Calls Try.prog 41 #[.pointer (some ⟨P, 0, none⟩), .int .u64 v, .int .i64 k] w (Put19Post P keep f ns k w) := by
  obtain ⟨iu, hiu, hu0, hu1, hu2⟩ := info_parts Try.infoU64
  obtain ⟨ii, hii, hi0, hi1, hi2⟩ := info_parts Try.infoInt
  have g1 : decide ((4611686018427387903 : Int) < (v : Int)) = false := decide_eq_false (by omega)
  have g1' : ¬ (4611686018427387903 : Int) < (v : Int) := by omega
  have HH := Lib.hid h
  have hPl := h.blk.lt
  obtain ⟨c0, c1, c2⟩ := h.blk.c3
  have cf := fun o => h.blk.frozen o
  have hrv := h.rv
  have hrn := h.rn
  clear h
  obtain ⟨m, hm⟩ : ∃ m, ns.length = m := ⟨_, rfl⟩
  rw [hm] at c1 c2 hfew hrv hrn hv
  have HM := Lib.hid hm
  have HV := Lib.hid hv
  have h63 : m + 1 ≤ maxLen := by unfold maxLen; omega
  clear hm hv
  by_cases h0 : m = 0
  · have m0 : decide (0 < (m : Int)) = false := decide_eq_false (by omega)
    have m0' : ¬ 0 < (m : Int) := by omega
    have H0 := Lib.hid h0
    clear h0
    have hW0 : Ext w w := Ext.refl w
    have HRV := Lib.hid hrv
    have HRN := Lib.hid hrn
    have HW0 := Lib.hid hW0
    clear hrv hrn hW0
    obtain ⟨W0, rfl⟩ : ∃ W0, W0 = w := ⟨_, rfl⟩
    go_enter Try.func41, Try.ntmps41
    go_wp2_with (first
        | (have hmark := HO3; at_builtin; refine wpList_append_x _ rfl _ _ 62 rfl (w2.setCell ⟨P, 1, none⟩ (.slice s2.a (m + 1) s2.c)).heap.size 3 ii (.int .i64 0) 1 8 Try.underlying62 hii hi0 hi1 hi2 rfl (by decide) s3 m (numV ns) rfl (HO3.out.alloc _) (fun _ => True) ⟨some ⟨w3.heap.size, 0, none⟩, 1⟩ 1 [.int .i64 k] rfl (Rd.one _ _ _) (by simp [Value.oneCell']) h63 (by omega) (by have := HSZ_w3; simp at this ⊢; omega) ?_; intro s4 w5 ho hw hs; have HO4 := Lib.hid ho; have HW4 := Lib.hid hw; clear ho hw hs; have hE5 := two_ext HW3.out HO3.out HW4.out; have r0 := (hE5.cell (o := 0) hPl3).trans q0; have r1 := (hE5.cell (o := 1) hPl3).trans q1; have r2 := (hE5.cell (o := 2) hPl3).trans q2; have fz5 := fun o => (hE5.frozen (o := o) hPl3).trans (cf3 o); have HE5 := Lib.hid hE5; clear hE5)
        | (have hmark2 := HO2; at_builtin; refine wpList_append_x _ rfl _ _ 62 rfl (w2.setCell ⟨P, 1, none⟩ (.slice s2.a (m + 1) s2.c)).heap.size 3 ii (.int .i64 0) 1 8 Try.underlying62 hii hi0 hi1 hi2 rfl (by decide) Sl.none 0 [] rfl (World.ownsRow_nil _ _ _ _) (fun b => b < (w2.setCell ⟨P, 1, none⟩ (.slice s2.a (m + 1) s2.c)).heap.size ∧ P < b) sn m (numV ns) rfl HRN3.out (numV_one ns) (by omega) (by omega) (Nat.le_refl _) ?_; intro s3 w3 ho hw hs; simp only [Nat.zero_add, List.nil_append] at ho ⊢; have HO3 := Lib.hid ho; have HW3 := Lib.hid (show Wr (w2.setCell ⟨P, 1, none⟩ (.slice s2.a (m + 1) s2.c)) w3 none from hw); clear ho hw hs; have HSZ_w3 : (w2.setCell ⟨P, 1, none⟩ (.slice s2.a (m + 1) s2.c)).heap.size ≤ w3.heap.size := HW3.out.grown.size)
        | (have hmark := HO1; at_builtin; refine wpList_append_x _ rfl _ _ 64 rfl W0.heap.size 22 iu (.int .u64 0) 1 8 Try.underlying64 hiu hu0 hu1 hu2 rfl (by decide) s1 m (verV f m) rfl (HO1.out.alloc _) (fun _ => True) ⟨some ⟨w1.heap.size, 0, none⟩, 1⟩ 1 [.int .u64 v] rfl (Rd.one _ _ _) (by simp [Value.oneCell']) h63 (by omega) (by have := HSZ_w1; simp; omega) ?_; intro s2 w2 ho hw hs; have HO2 := Lib.hid ho; have HW2 := Lib.hid hw; clear ho hw hs; have hE := two_ext HW1.out HO1.out HW2.out; have p0 := (hE.cell (o := 0) hPl).trans c0; have p1 := (hE.cell (o := 1) hPl).trans c1; have p2 := (hE.cell (o := 2) hPl).trans c2; have fz := fun o => (hE.frozen (o := o) hPl).trans (cf o); have q0 := (World.cell?_setCell_other w2 ⟨P, 1, none⟩ ⟨P, 0, none⟩ (.slice s2.a (m + 1) s2.c) (by simp)).trans p0; have q1 := World.cell?_setCell_same w2 ⟨P, 1, none⟩ (.slice s2.a (m + 1) s2.c) p1; have q2 := (World.cell?_setCell_other w2 ⟨P, 1, none⟩ ⟨P, 2, none⟩ (.slice s2.a (m + 1) s2.c) (by simp)).trans p2; have hPl3 : P < (w2.setCell ⟨P, 1, none⟩ (.slice s2.a (m + 1) s2.c)).heap.size := (by simpa using Nat.lt_of_lt_of_le hPl hE.size); have HRN3 := Lib.hid (rd_set3 HRN.out hE (p := ⟨P, 1, none⟩) rfl (.slice s2.a (m + 1) s2.c)); have cf3 : ∀ o, (w2.setCell ⟨P, 1, none⟩ (.slice s2.a (m + 1) s2.c)).frozen? ⟨P, o, none⟩ = false := (fun o => by rw [World.frozen?_setCell]; exact fz o); have HE := Lib.hid hE; clear hE)
        | (at_builtin; refine wpList_append_x _ rfl _ _ 64 rfl W0.heap.size 22 iu (.int .u64 0) 1 8 Try.underlying64 hiu hu0 hu1 hu2 rfl (by decide) Sl.none 0 [] rfl (World.ownsRow_nil _ _ _ _) (fun b => b < W0.heap.size ∧ P < b) sv m (verV f m) rfl HRV.out (verV_one f m) (by omega) (by omega) (Nat.le_refl _) ?_; intro s1 w1 ho hw hs; simp only [Nat.zero_add, List.nil_append] at ho ⊢; have HO1 := Lib.hid ho; have HW1 := Lib.hid (show Wr W0 w1 none from hw); clear ho hw hs; have HSZ_w1 : W0.heap.size ≤ w1.heap.size := HW1.out.grown.size))
    go_ret
    exact put19_end HH.out HM.out HV.out hfew hvm HW0.out HE.out HO2.out HE5.out HO4.out
  · have m0 : decide (0 < (m : Int)) = true := decide_eq_true (by omega)
    have m0' : 0 < (m : Int) := by omega
    have hv := HV.out
    obtain ⟨l, hl⟩ : ∃ l, m - 1 = l := ⟨_, rfl⟩
    obtain ⟨b, o, hsl, -, hcl⟩ := id hrv
    obtain ⟨ha, hc1, hc2⟩ := hsl.eq (by omega)
    have clast := hcl l _ (verV_at (by omega))
    obtain ⟨z, hz⟩ : ∃ z, f + l = z := ⟨_, rfl⟩
    rw [hz] at clast
    have hlm : (l : Int) < (m : Int) := by omega
    have hwl : IntKind.i64.wrap ((m : Int) - 1) = (l : Int) := by rw [IntKind.wrap_i64]; omega
    have g2 : decide ((v : Int) ≤ (z : Int)) = false := decide_eq_false (by omega)
    have g2' : ¬ (v : Int) ≤ (z : Int) := by omega
    have hwz : IntKind.u64.wrap ((z : Int) + 1) = (z : Int) + 1 := by rw [IntKind.wrap_u64]; omega
    have g3 : decide ((z : Int) + 1 < (v : Int)) = false := decide_eq_false (by omega)
    have g3' : ¬ (z : Int) + 1 < (v : Int) := by omega
    have c1' := c1
    rw [ha] at c1'
    have HA := Lib.hid ha
    have H0 := Lib.hid h0
    have HRVw := Lib.hid hrv
    have HRNw := Lib.hid hrn
    have HC1 := Lib.hid c1
    clear hsl hcl ha hrv hrn hl hz h0 c1 hv
    go_enter Try.func41, Try.ntmps41
    go_wp2_with fail
    go_quiet (fail)
    have hW0 : Ext w (w.drewN nq) := (Ext.refl w).drewN nq
    have hrv := (HRVw.out.agree (hW0.agree (F := fun b => b < w.heap.size ∧ P < b) fun i hi => hi.1)).mono (G := fun b => b < (w.drewN nq).heap.size ∧ P < b) fun i hi => hi
    have hrn := (HRNw.out.agree (hW0.agree (F := fun b => b < w.heap.size ∧ P < b) fun i hi => hi.1)).mono (G := fun b => b < (w.drewN nq).heap.size ∧ P < b) fun i hi => hi
    have HRV := Lib.hid hrv
    have HRN := Lib.hid hrn
    have HW0 := Lib.hid hW0
    have d0 : (w.drewN nq).cell? ⟨P, 0, none⟩ = some (.int .i64 keep) := c0
    have d1 : (w.drewN nq).cell? ⟨P, 1, none⟩ = some (.slice sv.a m sv.c) := HC1.out
    have d2 : (w.drewN nq).cell? ⟨P, 2, none⟩ = some (.slice sn.a m sn.c) := c2
    have df : ∀ o, (w.drewN nq).frozen? ⟨P, o, none⟩ = false := cf
    have hPl' : P < (w.drewN nq).heap.size := hPl
    clear hrv hrn hW0 c0 c1' c2 cf hPl clast
    generalize w.drewN nq = W0 at *
    have c0 := d0
    have c1 := d1
    have c2 := d2
    have cf := df
    have hPl := hPl'
    clear d0 d1 d2 df hPl'
    go_wp2_with (first
        | (have hmark := HO3; at_builtin; refine wpList_append_x _ rfl _ _ 62 rfl (w2.setCell ⟨P, 1, none⟩ (.slice s2.a (m + 1) s2.c)).heap.size 3 ii (.int .i64 0) 1 8 Try.underlying62 hii hi0 hi1 hi2 rfl (by decide) s3 m (numV ns) rfl (HO3.out.alloc _) (fun _ => True) ⟨some ⟨w3.heap.size, 0, none⟩, 1⟩ 1 [.int .i64 k] rfl (Rd.one _ _ _) (by simp [Value.oneCell']) h63 (by omega) (by have := HSZ_w3; simp at this ⊢; omega) ?_; intro s4 w5 ho hw hs; have HO4 := Lib.hid ho; have HW4 := Lib.hid hw; clear ho hw hs; have hE5 := two_ext HW3.out HO3.out HW4.out; have r0 := (hE5.cell (o := 0) hPl3).trans q0; have r1 := (hE5.cell (o := 1) hPl3).trans q1; have r2 := (hE5.cell (o := 2) hPl3).trans q2; have fz5 := fun o => (hE5.frozen (o := o) hPl3).trans (cf3 o); have HE5 := Lib.hid hE5; clear hE5)
        | (have hmark2 := HO2; at_builtin; refine wpList_append_x _ rfl _ _ 62 rfl (w2.setCell ⟨P, 1, none⟩ (.slice s2.a (m + 1) s2.c)).heap.size 3 ii (.int .i64 0) 1 8 Try.underlying62 hii hi0 hi1 hi2 rfl (by decide) Sl.none 0 [] rfl (World.ownsRow_nil _ _ _ _) (fun b => b < (w2.setCell ⟨P, 1, none⟩ (.slice s2.a (m + 1) s2.c)).heap.size ∧ P < b) sn m (numV ns) rfl HRN3.out (numV_one ns) (by omega) (by omega) (Nat.le_refl _) ?_; intro s3 w3 ho hw hs; simp only [Nat.zero_add, List.nil_append] at ho ⊢; have HO3 := Lib.hid ho; have HW3 := Lib.hid (show Wr (w2.setCell ⟨P, 1, none⟩ (.slice s2.a (m + 1) s2.c)) w3 none from hw); clear ho hw hs; have HSZ_w3 : (w2.setCell ⟨P, 1, none⟩ (.slice s2.a (m + 1) s2.c)).heap.size ≤ w3.heap.size := HW3.out.grown.size)
        | (have hmark := HO1; at_builtin; refine wpList_append_x _ rfl _ _ 64 rfl W0.heap.size 22 iu (.int .u64 0) 1 8 Try.underlying64 hiu hu0 hu1 hu2 rfl (by decide) s1 m (verV f m) rfl (HO1.out.alloc _) (fun _ => True) ⟨some ⟨w1.heap.size, 0, none⟩, 1⟩ 1 [.int .u64 v] rfl (Rd.one _ _ _) (by simp [Value.oneCell']) h63 (by omega) (by have := HSZ_w1; simp; omega) ?_; intro s2 w2 ho hw hs; have HO2 := Lib.hid ho; have HW2 := Lib.hid hw; clear ho hw hs; have hE := two_ext HW1.out HO1.out HW2.out; have p0 := (hE.cell (o := 0) hPl).trans c0; have p1 := (hE.cell (o := 1) hPl).trans c1; have p2 := (hE.cell (o := 2) hPl).trans c2; have fz := fun o => (hE.frozen (o := o) hPl).trans (cf o); have q0 := (World.cell?_setCell_other w2 ⟨P, 1, none⟩ ⟨P, 0, none⟩ (.slice s2.a (m + 1) s2.c) (by simp)).trans p0; have q1 := World.cell?_setCell_same w2 ⟨P, 1, none⟩ (.slice s2.a (m + 1) s2.c) p1; have q2 := (World.cell?_setCell_other w2 ⟨P, 1, none⟩ ⟨P, 2, none⟩ (.slice s2.a (m + 1) s2.c) (by simp)).trans p2; have hPl3 : P < (w2.setCell ⟨P, 1, none⟩ (.slice s2.a (m + 1) s2.c)).heap.size := (by simpa using Nat.lt_of_lt_of_le hPl hE.size); have HRN3 := Lib.hid (rd_set3 HRN.out hE (p := ⟨P, 1, none⟩) rfl (.slice s2.a (m + 1) s2.c)); have cf3 : ∀ o, (w2.setCell ⟨P, 1, none⟩ (.slice s2.a (m + 1) s2.c)).frozen? ⟨P, o, none⟩ = false := (fun o => by rw [World.frozen?_setCell]; exact fz o); have HE := Lib.hid hE; clear hE)
        | (at_builtin; refine wpList_append_x _ rfl _ _ 64 rfl W0.heap.size 22 iu (.int .u64 0) 1 8 Try.underlying64 hiu hu0 hu1 hu2 rfl (by decide) Sl.none 0 [] rfl (World.ownsRow_nil _ _ _ _) (fun b => b < W0.heap.size ∧ P < b) sv m (verV f m) rfl HRV.out (verV_one f m) (by omega) (by omega) (Nat.le_refl _) ?_; intro s1 w1 ho hw hs; simp only [Nat.zero_add, List.nil_append] at ho ⊢; have HO1 := Lib.hid ho; have HW1 := Lib.hid (show Wr W0 w1 none from hw); clear ho hw hs; have HSZ_w1 : W0.heap.size ≤ w1.heap.size := HW1.out.grown.size))
    go_ret
    exact put19_end HH.out HM.out HV.out hfew hvm HW0.out HE.out HO2.out HE5.out HO4.out
end Go.Proofs.Ytpapoalgocmlaaa
