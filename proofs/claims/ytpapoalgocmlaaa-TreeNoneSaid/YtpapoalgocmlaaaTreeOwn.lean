/- TreeOwn: a tree's values are its own. -/
import Derived.Test.YtpapoalgocmlaaaLetters
import Derived.Test.YtpapoalgocmlaaaSt
namespace Go.Proofs.Ytpapoalgocmlaaa
open Go.RowKit
set_option linter.unusedVariables false
set_option linter.unusedSimpArgs false

/-- A list of one number. -/
abbrev listV (n : Int) : Val := .mk 5 false 0 ByteArray.empty [.mk 3 false n ByteArray.empty [] [] []] [] []
theorem one_list {w : World} {F : Nat → Prop} {n : Int} {sl so : Sl} (h : RV w F (listV n) sl so) : ∃ b o c, sl = ⟨some ⟨b, o, none⟩, c⟩ ∧ F b ∧ 1 ≤ c ∧ c ≤ maxLen ∧ w.cell? ⟨b, o + 2, none⟩ = some (.int .i64 n) := by
  cases h with
  | mk bl fl bo fo cl co hl ho hov el rl ek eo ro bk bi bt nl no =>
    obtain ⟨h1, h2, h3⟩ := hl.eq (Nat.zero_lt_one)
    have := (el 0 _ rfl).c2
    rw [Nat.zero_mul, Nat.add_zero] at this
    exact ⟨bl, fl, sl.c, by obtain ⟨a, c⟩ := sl; simp_all, hl.fits (Nat.zero_lt_one), h2, h3, this⟩
theorem rv_list {w : World} {F : Nat → Prop} {n : Int} {b : Nat} (hb : Blk w b 49 #[.int .i64 3, .bool false, .int .i64 n, .string ByteArray.empty, .slice none 0 0, .slice none 0 0]) (hF : F b) (wn : (Lit.int .i64 n).wf = true) : RV w F (listV n) ⟨some ⟨b, 0, none⟩, 1⟩ Sl.none := by
  obtain ⟨c0, c1, c2, c3, c4, c5⟩ := hb.c6
  refine .mk b 0 0 0 (fun _ => (Sl.none, Sl.none)) (fun _ => (Sl.none, Sl.none)) (.some _ _ _ _ (Nat.le_refl _) (by decide) hF) (.nil _ _) rfl (fun j d hj => ?_) (fun j d hj => ?_) (fun j k h => by simp at h) (fun j k h => by simp at h) (fun j k h => by simp at h) (by decide) (by decide) (by decide) (show 1 * 88 ≤ 140737488355328 by decide) (by decide)
  · match j, hj with
    | 0, hj =>
      simp at hj; subst hj
      exact ⟨c0, c1, c2, c3, c4, c5⟩
  · match j, hj with
    | 0, hj =>
      simp at hj; subst hj
      exact RV.flat _ _ _ _ _ _ (by decide) wn (by decide)

/-- The tree of one key. -/
structure OneT (k : ByteArray) (n : Int) (T : RT) (F : Nat → Prop) (w : World) : Prop where
  tree : IsT w F T
  ok : OkR T
  ents : entsT T = [(k, listV n)]
theorem OneT.agree {k : ByteArray} {n : Int} {T : RT} {F : Nat → Prop} {w w' : World} (h : OneT k n T F w) (ha : Agree F w w') : OneT k n T F w' := ⟨h.tree.agree ha, h.ok, h.ents⟩
theorem OneT.get {k : ByteArray} {n : Int} {T : RT} {F : Nat → Prop} {w : World} (h : OneT k n T F w) (hF : ∀ b, F b → b < w.heap.size) {p : Option Addr} (hp : rootV T = .pointer p) :
    Calls Try.prog 37 #[.agg #[.pointer p], .string k] w fun e w' => ∃ (b o c : Nat) (so : Sl), e = .returned (.tuple #[.agg #[.int .i64 5, .bool false, .int .i64 0, .string ByteArray.empty, .slice (some ⟨b, o, none⟩) 1 c, .slice so.a 0 so.c], .bool true]) ∧ w.heap.size ≤ b ∧ b < w'.heap.size ∧ 1 ≤ c ∧ c ≤ maxLen ∧ w'.cell? ⟨b, o + 2, none⟩ = some (.int .i64 n) ∧ Ext w w' := by
  have hg := treeGet_any hF h.tree h.ok (by rw [h.ents]; show 1 ≤ 1000000; omega) k
  rw [h.ents, treeV, hp, show getE [(k, listV n)] k = some (listV n) from by simp [getE]] at hg
  refine hg.mono ?_
  rintro e w' ⟨sl, so, rfl, hx, hr⟩
  obtain ⟨b, o, c, rfl, hb, hc1, hc2, hcell⟩ := one_list hr
  exact ⟨b, o, c, so, rfl, hb.1, hb.2, hc1, hc2, hcell, hx⟩
theorem OneT.entries {k : ByteArray} {n : Int} {T : RT} {F : Nat → Prop} {w : World} (h : OneT k n T F w) (hF : ∀ b, F b → b < w.heap.size) {p : Option Addr} (hp : rootV T = .pointer p) :
    Calls Try.prog 38 #[.agg #[.pointer p]] w fun e w' => ∃ (g c b o d : Nat), e = .returned (.slice (some ⟨g, 0, none⟩) 1 c) ∧ 1 ≤ c ∧ c ≤ maxLen ∧ w.heap.size ≤ g ∧ g < w'.heap.size ∧ w'.cell? ⟨g, 5, none⟩ = some (.slice (some ⟨b, o, none⟩) 1 d) ∧ 1 ≤ d ∧ d ≤ maxLen ∧ w.heap.size ≤ b ∧ b < w'.heap.size ∧ w'.cell? ⟨b, o + 2, none⟩ = some (.int .i64 n) ∧ Ext w w' := by
  have hg := treeEntries_any hF h.tree h.ok (by rw [h.ents]; show 1 ≤ 1000000; omega)
  rw [h.ents, treeV, hp] at hg
  refine hg.mono ?_
  rintro e w' ⟨s, xs, rfl, hxs, ho, hx⟩
  have hl1 : xs.length = 1 := by have := congrArg List.length hxs; simpa using this
  obtain ⟨x, rfl⟩ := List.length_eq_one_iff.1 hl1
  · simp only [List.map_cons, List.map_nil, List.cons.injEq, and_true] at hxs
    obtain ⟨xk, xv, xsl, xso⟩ := x
    simp only [LE.ent, Prod.mk.injEq] at hxs
    obtain ⟨rfl, rfl⟩ := hxs
    obtain ⟨g, cap, rfl, hbg, hnc, hcm, hfil⟩ := ho.block (by simp)
    obtain ⟨-, h1, h2, h3, -⟩ := ho.es.at' (i := 0) rfl
    obtain ⟨b, o, d, hsl, hb, hd1, hd2, hcell⟩ := one_list h3
    have c5 := h2.c4
    simp only [Nat.zero_mul, Nat.zero_add] at c5
    dsimp only at hsl
    subst hsl
    exact ⟨g, cap, b, o, d, rfl, hnc, hcm, hbg, hfil.lt, c5, hd1, hd2, hb.1, hb.2, hcell, hx⟩

set_option maxRecDepth 100000 in
theorem put_list0 {k : ByteArray} {n : Int} (W : World) (sl : Sl) (hk : k.size ≤ maxLen) (hrv : RV W (Lt W.heap.size) (listV n) sl Sl.none) : Calls Try.prog 36 #[treeV none, .string k, aggV (listV n) sl Sl.none] W (PutPost (fun _ => False) none k (listV n) W) :=
  put_any (F := fun _ => False) (T := none) (fun _ h => h.elim) trivial trivial (Nat.zero_le _) hk hrv
theorem aggV_list (n : Int) (b : Nat) : aggV (listV n) ⟨some ⟨b, 0, none⟩, 1⟩ Sl.none = .agg #[.int .i64 5, .bool false, .int .i64 0, .string ByteArray.empty, .slice (some ⟨b, 0, none⟩) 1 1, .slice none 0 0] := rfl
set_option maxRecDepth 100000 in
theorem put_list {k : ByteArray} {n : Int} {b : Nat} (W : World) (hk : k.size ≤ maxLen) (hrv : RV W (Lt W.heap.size) (listV n) ⟨some ⟨b, 0, none⟩, 1⟩ Sl.none) :
    Calls Try.prog 36 #[.agg #[.pointer none], .string k, .agg #[.int .i64 5, .bool false, .int .i64 0, .string ByteArray.empty, .slice (some ⟨b, 0, none⟩) 1 1, .slice none 0 0]] W (PutPost (fun _ => False) none k (listV n) W) := by
  have h := put_list0 W _ hk hrv
  rw [aggV_list] at h
  exact h
set_option maxRecDepth 100000 in
set_option maxHeartbeats 400000 in
theorem treeown_w (k : ByteArray) (n : Int) (hk : k.size ≤ maxLen) (wn : (Lit.int .i64 n).wf = true) (w : World) : Calls Try.prog 5 #[.string k, .int .i64 n] w fun e w' => e = .returned (.bool true) ∧ Ext w w' := by
  go_enter Try.func5, Try.ntmps5
  go_wp2_with fail
  generalize hW0 : World.alloc _ _ = W0
  obtain ⟨hx0, hz0, hb0, hb1, hb2⟩ := three_blocks w _ _ _ _ _ _ W0 hW0
  have hrv : RV W0 (Lt W0.heap.size) (listV n) ⟨some ⟨w.heap.size, 0, none⟩, 1⟩ Sl.none := rv_list hb0 hb0.lt wn
  have hput : Calls Try.prog 36 #[.agg #[.pointer none], .string k, .agg #[.int .i64 5, .bool false, .int .i64 0, .string ByteArray.empty, .slice (some ⟨w.heap.size, 0, none⟩) 1 1, .slice none 0 0]] W0 (PutPost (fun _ => False) none k (listV n) W0) :=
    put_list W0 hk hrv
  have r2 : W0.cell? ⟨w.heap.size, 2, none⟩ = some (.int .i64 n) := hb0.cell 2
  have v4 : W0.cell? ⟨w.heap.size + 1, 4, none⟩ = some (.slice (some ⟨w.heap.size, 0, none⟩) 1 1) := hb1.cell 4
  have fz : W0.frozen? ⟨w.heap.size, 2, none⟩ = false := hb0.frozen 2
  have l0 := hb0.lt
  have l1 := hb1.lt
  have HX0 := Lib.hid hx0
  have HZ0 := Lib.hid hz0
  clear hW0 hx0 hz0 hb0 hb1 hb2 hrv
  refine hput.mono ?_
  rintro e w1 ⟨T, rfl, hp, hT, hx1⟩
  obtain ⟨p, hpT⟩ := rootV_ptr T
  have hone : OneT k n T (In W0.heap.size w1.heap.size) w1 := ⟨hT.mono (fun i hi => hi.elim (fun h => h.elim) id), hp.ok trivial, hp.ents trivial⟩
  have r2' : w1.cell? ⟨w.heap.size, 2, none⟩ = some (.int .i64 n) := (hx1.cell l0).trans r2
  have v4' : w1.cell? ⟨w.heap.size + 1, 4, none⟩ = some (.slice (some ⟨w.heap.size, 0, none⟩) 1 1) := (hx1.cell l1).trans v4
  have fz' : w1.frozen? ⟨w.heap.size, 2, none⟩ = false := (hx1.frozen l0).trans fz
  have l0' := Nat.lt_of_lt_of_le l0 hx1.size
  have l1' := Nat.lt_of_lt_of_le l1 hx1.size
  have HX1 := Lib.hid hx1
  have HONE := Lib.hid hone
  have HPT := Lib.hid hpT
  dsimp only [treeV]
  rw [hpT]
  clear hput hp hT hx1 hone r2 v4 fz l1 hpT
  go_wp2_with fail
  generalize hW2 : World.alloc (World.setCell _ _ _) _ = W2
  have hE2 : Ext w W2 := by rw [← hW2]; exact ((HX0.out.trans HX1.out).setCell (p := ⟨w.heap.size, 2, none⟩) (Nat.le_refl _) _).alloc _ _
  have hz2 : W2.heap.size = w1.heap.size + 1 := by rw [← hW2]; simp
  have hone2 : OneT k n T (In W0.heap.size w1.heap.size) W2 := by
    rw [← hW2]
    exact HONE.out.agree ((Agree.setCell w1 ⟨w.heap.size, 2, none⟩ _ (fun h => by have h1 : W0.heap.size ≤ w.heap.size := h.1; omega)).trans (Agree.alloc _ _ (fun b hb => by rw [World.size_setCell]; exact hb.2)))
  have ht2 : Blk W2 w1.heap.size 30 #[.pointer p] := by
    rw [← hW2]
    have := Blk.new (w1.setCell ⟨w.heap.size, 2, none⟩ (.int .i64 (wrap64 (n + 1)))) 30 #[.pointer p]
    rwa [World.size_setCell] at this
  have HZ2 := Lib.hid hz2
  have HE2 := Lib.hid hE2
  have hget2 := hone2.get (fun b hb => by rw [hz2]; have := hb.2; omega) HPT.out
  have HONE2 := Lib.hid hone2
  have HT2 := Lib.hid ht2
  clear hW2 hE2 hz2 hone2 ht2 r2' v4' fz' l0' l0
  refine hget2.mono ?_
  rintro e w3 ⟨b, o, c, so, rfl, hb1, hb2, hc1, hc2, hcell, hx3⟩
  have hx4 : Ext W2 (w3.alloc (.cells #[.int .i64 5, .bool false, .int .i64 0, .string ByteArray.empty, .slice (some ⟨b, o, none⟩) 1 c, .slice so.a 0 so.c] 49)) := hx3.alloc _ _
  have hbx := Blk.new w3 49 #[.int .i64 5, .bool false, .int .i64 0, .string ByteArray.empty, .slice (some ⟨b, o, none⟩) 1 c, .slice so.a 0 so.c]
  have t3 : w3.cell? ⟨w1.heap.size, 0, none⟩ = some (.pointer p) := (HT2.out.ext hx3).cell 0
  have lt3 : w1.heap.size < w3.heap.size := (HT2.out.ext hx3).lt
  have HX4 := Lib.hid hx4
  have HBX := Lib.hid hbx
  have HCE := Lib.hid hcell
  have hz3 : W2.heap.size ≤ w3.heap.size := hx3.size
  clear hget2 hcell hx3 hx4 hbx
  go_wp2_with fail
  generalize hW4 : World.alloc _ _ = W4
  have hx4 : Ext W2 W4 := by rw [← hW4]; exact HX4.out
  have hbx : Blk W4 w3.heap.size 49 #[.int .i64 5, .bool false, .int .i64 0, .string ByteArray.empty, .slice (some ⟨b, o, none⟩) 1 c, .slice so.a 0 so.c] := by rw [← hW4]; exact HBX.out
  have hz4 : W4.heap.size = w3.heap.size + 1 := by rw [← hW4]; simp
  have hcell4 : W4.cell? ⟨b, o + 2, none⟩ = some (.int .i64 n) := by rw [← hW4]; exact (World.cell?_alloc_lt _ _ _ hb2).trans HCE.out
  have hone4 : OneT k n T (In W0.heap.size w1.heap.size) W4 := HONE2.out.agree (hx4.agree fun b hb => by have := HZ2.out; have := hb.2; omega)
  have hent := hone4.entries (fun b hb => by rw [hz4]; have := hb.2; omega) HPT.out
  clear hW4 HX4 HBX HCE t3
  have HX4 := Lib.hid hx4
  have HONE4 := Lib.hid hone4
  have HZ4 := Lib.hid hz4
  refine hent.mono ?_
  rintro e w5 ⟨g, c', b', o', d, rfl, hc1', hc2', hg1, hg2, hg5, hd1, hd2, hb1', hb2', hcell', hx5⟩
  have t5 : w5.cell? ⟨w1.heap.size, 0, none⟩ = some (.pointer p) := (HT2.out.ext (hx4.trans hx5)).cell 0
  have k5 : w5.cell? ⟨b, o + 2, none⟩ = some (.int .i64 n) := (hx5.cell (by rw [hz4]; omega)).trans hcell4
  have y5 : w5.cell? ⟨w3.heap.size, 4, none⟩ = some (.slice (some ⟨b, o, none⟩) 1 c) := (hbx.ext hx5).cell 4
  have fz5 : w5.frozen? ⟨b, o + 2, none⟩ = false := (hx4.trans hx5).free _ _ hb1
  have fz5' : w5.frozen? ⟨b', o' + 2, none⟩ = false := hx5.free _ _ hb1'
  have hbg : ¬ g = b := by omega
  have hbg' : ¬ b = g := by omega
  have hbb : ¬ b = b' := by omega
  have hbb' : ¬ b' = b := by omega
  have hzz := HZ2.out
  have hbt : ¬ b = w1.heap.size := by omega
  have hbt' : ¬ w1.heap.size = b := by omega
  have hbt2 : ¬ b' = w1.heap.size := by omega
  have hbt2' : ¬ w1.heap.size = b' := by omega
  have HX5 := Lib.hid hx5
  have HN := Lib.hid hcell'
  have hcc : (1 : Nat) ≤ c := hc1
  have hw5 : b < w5.heap.size := by have := hx5.size; omega
  clear hent hx4 hbx hz4 hcell4 hone4 hx5 hzz
  go_wp2_with fail
  generalize hW6 : World.setCell (World.setCell _ _ _) _ _ = W6
  have hst : St (fun x => x = b ∨ x = b') w5 W6 := by
    rw [← hW6]
    exact (((St.refl _ w5).set (p := ⟨b, o + 2, none⟩) (.inr (.inl rfl)) _).set (p := ⟨b', o' + 2, none⟩) (.inr (.inr rfl)) _)
  have hz6 : W6.heap.size = w5.heap.size := by rw [← hW6]; simp
  have hzz := HZ2.out
  have hzz4 := HZ4.out
  have hs5 := HX5.out.size
  have hone6 : OneT k n T (In W0.heap.size w1.heap.size) W6 := (HONE4.out.agree (HX5.out.agree fun b hb => by have := hb.2; omega)).agree (hst.agree.mono fun i hi => ⟨by have := hi.2; omega, by have := hi.2; omega⟩)
  have hget6 := hone6.get (fun b hb => by rw [hz6]; have := hb.2; omega) HPT.out
  have hE6 : Ext w W6 := (HE2.out.trans (HX4.out.trans HX5.out)).step hst (fun x hx => by have := HE2.out.size; omega)
  have HE6 := Lib.hid hE6
  clear hW6 hst hz6 hone6 hE6 t5 k5 y5 fz5 fz5' hg5 hbg hbg' hbb hbb' hbt hbt' hbt2 hbt2' hzz hzz4
  refine hget6.mono ?_
  rintro e w7 ⟨b2, o2, c2, so2, rfl, hb21, hb22, hc21, hc22, hcell2, hx7⟩
  have HE7 := Lib.hid (HE6.out.trans hx7)
  have hcc2 : (1 : Nat) ≤ c2 := hc21
  clear hget6 hx7
  go_wp2_with fail
  refine (known07 _).mono ?_
  rintro e w8 ⟨rfl, hx8⟩
  have HX8 := Lib.hid hx8
  clear hx8
  go_wp2_with fail
  go_ret
  exact ⟨rfl, (HE7.out.alloc _ _).trans HX8.out⟩
end Go.Proofs.Ytpapoalgocmlaaa
