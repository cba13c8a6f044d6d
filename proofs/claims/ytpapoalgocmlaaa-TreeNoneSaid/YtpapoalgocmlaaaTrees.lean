/- law19.trees: five trees, whose roots differ. -/
import Derived.Test.YtpapoalgocmlaaaLog
namespace Go.Proofs.Ytpapoalgocmlaaa
open Go.RowKit
set_option linter.unusedVariables false
set_option linter.unusedSimpArgs false

/-- A value without parts. -/
theorem RV.flat (w : World) (F : Nat → Prop) (kind : Int) (b : Bool) (i : Int) (t : ByteArray) (hk : (Lit.int .i64 kind).wf = true) (hi : (Lit.int .i64 i).wf = true) (ht : t.size ≤ maxLen) : RV w F (.mk kind b i t [] [] []) Sl.none Sl.none :=
  .mk 0 0 0 0 (fun _ => (Sl.none, Sl.none)) (fun _ => (Sl.none, Sl.none)) (.nil _ _) (.nil _ _) rfl (fun _ _ h => by simp at h) (fun _ _ h => by simp at h) (fun _ _ h => by simp at h) (fun _ _ h => by simp at h) (fun _ _ h => by simp at h) hk hi ht (by simp) (by simp)
abbrev oneV : Val := .mk 3 false 1 ByteArray.empty [] [] []
theorem PutR.root {B : Nat} {k : ByteArray} {v : Val} {T T' : RT} (hp : PutR B k v T T') : ∃ a, rootV T' = .pointer (some ⟨a, 0, none⟩) ∧ B ≤ a := by
  cases hp with
  | one hw =>
    rename_i h a
    refine ⟨addr h a, rfl, ?_⟩
    cases hw with
    | none u hu hb => exact hb
    | some hw =>
      cases h with
      | zero => exact hw.2 a (by simp)
      | succ h => obtain ⟨kid, rs, -, -, -, h4⟩ := hw; exact h4 a (by simp)
  | two hw hc hb => rename_i h a b c; exact ⟨addr (h + 1) c, rfl, hb⟩
theorem IsT.lt {w : World} {F : Nat → Prop} {T : RT} (h : IsT w F T) {a : Nat} (ha : rootV T = .pointer (some ⟨a, 0, none⟩)) : a < w.heap.size := by
  match T, h with
  | none, _ => cases ha
  | some ⟨n, t⟩, h =>
    simp only [rootV, ptr, Value.pointer.injEq, Option.some.injEq, Addr.mk.injEq, and_true] at ha
    subst ha
    obtain ⟨-, _, _, _, _, -, hb⟩ := IsN.cells h
    exact hb.lt

/-- A block of cells. -/
def IsB (w : World) (a : Nat) : Prop := ∃ (c : Array Value) (t : TypeId), w.heap[a]? = some (.cells c t (0, 0))
theorem IsB.ext {w w' : World} {a : Nat} (h : IsB w a) (he : Ext w w') : IsB w' a := by
  obtain ⟨c, t, hc⟩ := h
  exact ⟨c, t, (he.heap (Array.getElem?_eq_some_iff.1 hc).1).trans hc⟩
theorem IsT.lead {w : World} {F : Nat → Prop} {T : RT} (h : IsT w F T) {a : Nat} (ha : rootV T = .pointer (some ⟨a, 0, none⟩)) : IsB w a := by
  match T, h with
  | none, _ => cases ha
  | some ⟨n, t⟩, h =>
    simp only [rootV, ptr, Value.pointer.injEq, Option.some.injEq, Addr.mk.injEq, and_true] at ha
    subst ha
    obtain ⟨-, _, _, _, _, -, hb⟩ := IsN.cells h
    exact ⟨_, _, hb⟩

/-- What trees hands back: the row of five roots. -/
def TreesPost (w : World) (e : Ending) (w' : World) : Prop :=
  ∃ T a b c d : Nat, e = .returned (.slice (some ⟨T, 0, none⟩) 5 5) ∧ Blk w' T 30 #[.pointer none, .pointer (some ⟨a, 0, none⟩), .pointer (some ⟨b, 0, none⟩), .pointer (some ⟨c, 0, none⟩), .pointer (some ⟨d, 0, none⟩)] ∧
    a < b ∧ b < c ∧ c < d ∧ w.heap.size + 2 ≤ T ∧ Ext w w'
/-- .. and each root leads to a block. -/
def TreesPost2 (w : World) (e : Ending) (w' : World) : Prop :=
  ∃ T a b c d : Nat, e = .returned (.slice (some ⟨T, 0, none⟩) 5 5) ∧ Blk w' T 30 #[.pointer none, .pointer (some ⟨a, 0, none⟩), .pointer (some ⟨b, 0, none⟩), .pointer (some ⟨c, 0, none⟩), .pointer (some ⟨d, 0, none⟩)] ∧
    a < b ∧ b < c ∧ c < d ∧ w.heap.size + 2 ≤ T ∧ Ext w w' ∧ IsB w' a ∧ IsB w' b ∧ IsB w' c ∧ IsB w' d ∧ w.heap.size ≤ a

theorem aggV_one : aggV oneV Sl.none Sl.none = .agg #[.int .i64 3, .bool false, .int .i64 1, .string ByteArray.empty, .slice none 0 0, .slice none 0 0] := rfl
theorem put_one (W : World) (k : ByteArray) (hk : k.size ≤ maxLen) : Calls Try.prog 36 #[treeV none, .string k, aggV oneV Sl.none Sl.none] W (PutPost (fun _ => False) none k oneV W) :=
    put_any (w := W) (T := none) (F := fun _ => False) (fun _ h => h.elim) trivial trivial (Nat.zero_le _) (k := k) hk (RV.flat W _ 3 false 1 ByteArray.empty (by decide) (by decide) (by decide))

abbrev oneA : Value := .agg #[.int .i64 3, .bool false, .int .i64 1, .string ByteArray.empty, .slice none 0 0, .slice none 0 0]
theorem put_one' (W : World) (k : ByteArray) (hk : k.size ≤ maxLen) : Calls Try.prog 36 #[.agg #[.pointer none], .string k, oneA] W (PutPost (fun _ => False) none k oneV W) := put_one W k hk
theorem put_two (W : World) (F : Nat → Prop) (T : RT) (a : Nat) (k : ByteArray) (hF : ∀ b, F b → b < W.heap.size) (hT : IsT W F T) (ok : OkR T) (hc : (entsT T).length ≤ 1000000) (ha : rootV T = .pointer (some ⟨a, 0, none⟩)) (hk : k.size ≤ maxLen) :
    Calls Try.prog 36 #[.agg #[.pointer (some ⟨a, 0, none⟩)], .string k, oneA] W (PutPost F T k oneV W) := by
  have := put_any (w := W) (T := T) hF hT ok hc (k := k) hk (RV.flat W _ 3 false 1 ByteArray.empty (by decide) (by decide) (by decide))
  rw [treeV, ha, aggV_one] at this
  exact this

theorem put_one2 (W : World) (k : ByteArray) (hk : k.size ≤ maxLen) : Calls Try.prog 36 #[.agg #[.pointer none], .string k, oneA] W fun e w' => ∃ a, e = .returned (.agg #[.pointer (some ⟨a, 0, none⟩)]) ∧ W.heap.size ≤ a ∧ a < w'.heap.size ∧ Ext W w' ∧ IsB w' a :=
  (put_one' W k hk).mono fun e w' h => by
    obtain ⟨T3, rfl, hp3, ht3, hx5⟩ := h
    obtain ⟨a3, ha3, hb5⟩ := hp3.root
    exact ⟨a3, by rw [treeV, ha3], hb5, ht3.lt ha3, hx5, ht3.lead ha3⟩

set_option maxRecDepth 100000 in
set_option maxHeartbeats 1000000 in
theorem trees_any2 (w : World) : Calls Try.prog 28 #[] w (TreesPost2 w) := by
  go_enter Try.func28, Try.ntmps28
  go_wp2_with fail
  have hb0 : Blk ((w.alloc (.cells #[.pointer none] 30)).alloc (.cells #[.int .i64 3, .bool false, .int .i64 1, .string ByteArray.empty, .slice none 0 0, .slice none 0 0] 49)) w.heap.size 30 #[.pointer none] := (Blk.new w 30 #[.pointer none]).alloc _
  have hv0 : Blk ((w.alloc (.cells #[.pointer none] 30)).alloc (.cells #[.int .i64 3, .bool false, .int .i64 1, .string ByteArray.empty, .slice none 0 0, .slice none 0 0] 49)) (w.heap.size + 1) 49 #[.int .i64 3, .bool false, .int .i64 1, .string ByteArray.empty, .slice none 0 0, .slice none 0 0] := by
    have := Blk.new (w.alloc (.cells #[.pointer none] 30)) 49 #[.int .i64 3, .bool false, .int .i64 1, .string ByteArray.empty, .slice none 0 0, .slice none 0 0]
    rwa [World.size_alloc] at this
  have hX0 : Ext w ((w.alloc (.cells #[.pointer none] 30)).alloc (.cells #[.int .i64 3, .bool false, .int .i64 1, .string ByteArray.empty, .slice none 0 0, .slice none 0 0] 49)) := ((Ext.refl w).alloc _ _).alloc _ _
  change Calls _ _ _ ((w.alloc (.cells #[.pointer none] 30)).alloc (.cells #[.int .i64 3, .bool false, .int .i64 1, .string ByteArray.empty, .slice none 0 0, .slice none 0 0] 49)) _
  generalize (w.alloc (.cells #[.pointer none] 30)).alloc (.cells #[.int .i64 3, .bool false, .int .i64 1, .string ByteArray.empty, .slice none 0 0, .slice none 0 0] 49) = W0 at *
  have hsW0 := hX0.size
  refine (put_one' _ _ (by decide)).mono ?_
  rintro e w1 ⟨T1, rfl, hp1, ht1, hx1⟩
  obtain ⟨a1, ha1, hb1⟩ := hp1.root
  have hl1 := ht1.lt ha1
  have HLE1 := Lib.hid (ht1.lead ha1)
  rw [treeV, ha1]
  have hX1 := hX0.trans hx1
  have hz1 := hb0.ext hx1
  have hv1 := hv0.ext hx1
  have hz1l := hz1.lt
  have hv1l := hv1.lt
  have z1 : w1.cell? ⟨w.heap.size, 0, none⟩ = some (.pointer none) := hz1.cell 0
  obtain ⟨v0, v1, v2, v3, v4, v5⟩ := hv1.c6
  have HP1 := Lib.hid hp1
  have HT1 := Lib.hid ht1
  have HA1 := Lib.hid ha1
  clear hb0 hv0 hX0 hp1 ht1 ha1 hx1
  go_wp2_with fail
  have hx2 : Ext w1 (w1.alloc (.cells #[.pointer (some ⟨a1, 0, none⟩)] 30)) := (Ext.refl w1).alloc _ _
  have hb2 := Blk.new w1 30 #[.pointer (some ⟨a1, 0, none⟩)]
  generalize w1.alloc (.cells #[.pointer (some ⟨a1, 0, none⟩)] 30) = W1 at *
  have hok1 := HP1.out.ok (show OkR none from trivial)
  have hen1 := HP1.out.ents (show OkR none from trivial)
  refine (put_two W1 (Up (fun _ => False) W0 w1) T1 a1 _ (fun b hb => hb.elim False.elim fun h => Nat.lt_of_lt_of_le h.2 hx2.size) (HT1.out.agree (hx2.agree fun b hb => hb.elim False.elim fun h => h.2)) hok1 (by rw [hen1]; simp [entsT, insE]) HA1.out (by decide)).mono ?_
  rintro e w2 ⟨T2, rfl, hp2, ht2, hx3⟩
  obtain ⟨a2, ha2, hb3⟩ := hp2.root
  have hl2 := ht2.lt ha2
  have HLE2 := Lib.hid (ht2.lead ha2)
  have HX12 := Lib.hid (hx2.trans hx3)
  rw [treeV, ha2]
  have hX2 := hx2.trans hx3
  have hX2' := hX1.trans hX2
  have z2 := (hX2.cell (o := 0) hz1l).trans z1
  have u0 := (hX2.cell (o := 0) hv1l).trans v0
  have u1 := (hX2.cell (o := 1) hv1l).trans v1
  have u2 := (hX2.cell (o := 2) hv1l).trans v2
  have u3 := (hX2.cell (o := 3) hv1l).trans v3
  have u4 := (hX2.cell (o := 4) hv1l).trans v4
  have u5 := (hX2.cell (o := 5) hv1l).trans v5
  have y2 : w2.cell? ⟨w1.heap.size, 0, none⟩ = some (.pointer (some ⟨a1, 0, none⟩)) := (hb2.ext hx3).cell 0
  have hyl := (hb2.ext hx3).lt
  have hzl2 := Nat.lt_of_lt_of_le hz1l hX2.size
  have hvl2 := Nat.lt_of_lt_of_le hv1l hX2.size
  have hlt12 : a1 < a2 := by have := hx2.size; omega
  clear hok1 hen1 hx2 hb2 hx3 z1 v0 v1 v2 v3 v4 v5 hp2 ht2 ha2 hv1 hz1
  go_wp2_with fail
  have hx4 : Ext w2 (w2.alloc (.cells #[.pointer (some ⟨a2, 0, none⟩)] 30)) := (Ext.refl w2).alloc _ _
  have hb4 := Blk.new w2 30 #[.pointer (some ⟨a2, 0, none⟩)]
  generalize w2.alloc (.cells #[.pointer (some ⟨a2, 0, none⟩)] 30) = W2 at *
  have z4 := (hx4.cell (o := 0) hzl2).trans z2
  have s0 := (hx4.cell (o := 0) hvl2).trans u0
  have s1 := (hx4.cell (o := 1) hvl2).trans u1
  have s2 := (hx4.cell (o := 2) hvl2).trans u2
  have s3 := (hx4.cell (o := 3) hvl2).trans u3
  have s4 := (hx4.cell (o := 4) hvl2).trans u4
  have s5 := (hx4.cell (o := 5) hvl2).trans u5
  have y4 := (hx4.cell (o := 0) hyl).trans y2
  have x4 : W2.cell? ⟨w2.heap.size, 0, none⟩ = some (.pointer (some ⟨a2, 0, none⟩)) := hb4.cell 0
  have hzl4 := Nat.lt_of_lt_of_le hzl2 hx4.size
  have hvl4 := Nat.lt_of_lt_of_le hvl2 hx4.size
  have hyl4 := Nat.lt_of_lt_of_le hyl hx4.size
  have hxl4 := hb4.lt
  have hX4 := hX2'.trans hx4
  have HX4 := Lib.hid hX4
  have HX24 := Lib.hid hx4
  have hl24 : a2 < W2.heap.size := Nat.lt_of_lt_of_le hl2 hx4.size
  clear z2 u0 u1 u2 u3 u4 u5 y2 hx4 hb4 hX4 hX1 hX2 hX2'
  go_region_held3 (fun w' => w'.cell? ⟨w.heap.size, 0, none⟩ = some (.pointer none) ∧ w'.cell? ⟨w1.heap.size, 0, none⟩ = some (.pointer (some ⟨a1, 0, none⟩)) ∧ w'.cell? ⟨w2.heap.size, 0, none⟩ = some (.pointer (some ⟨a2, 0, none⟩)) ∧ w'.cell? ⟨w.heap.size + 1, 0, none⟩ = some (.int .i64 3) ∧ w'.cell? ⟨w.heap.size + 1, 1, none⟩ = some (.bool false) ∧ w'.cell? ⟨w.heap.size + 1, 2, none⟩ = some (.int .i64 1) ∧ w'.cell? ⟨w.heap.size + 1, 3, none⟩ = some (.string ByteArray.empty) ∧ w'.cell? ⟨w.heap.size + 1, 4, none⟩ = some (.slice none 0 0) ∧ w'.cell? ⟨w.heap.size + 1, 5, none⟩ = some (.slice none 0 0)) (go_keep)
    ((go_at_call 36; refine (put_one2 _ _ (by decide)).mono ?_; rintro e w3 ⟨a3, rfl, hb5, hl3, hx5, hle5⟩; have HLE5 := Lib.hid hle5; clear hle5; have z4 := (hx5.cell (o := 0) hzl4).trans z4; have y4 := (hx5.cell (o := 0) hyl4).trans y4; have x4 := (hx5.cell (o := 0) hxl4).trans x4; have s0 := (hx5.cell (o := 0) hvl4).trans s0; have s1 := (hx5.cell (o := 1) hvl4).trans s1; have s2 := (hx5.cell (o := 2) hvl4).trans s2; have s3 := (hx5.cell (o := 3) hvl4).trans s3; have s4 := (hx5.cell (o := 4) hvl4).trans s4; have s5 := (hx5.cell (o := 5) hvl4).trans s5; have hzl4 := Nat.lt_of_lt_of_le hzl4 hx5.size; have hvl4 := Nat.lt_of_lt_of_le hvl4 hx5.size; have hyl4 := Nat.lt_of_lt_of_le hyl4 hx5.size; have hxl4 := Nat.lt_of_lt_of_le hxl4 hx5.size))
  go_wp2_with fail
  go_ret
  have hdr : W2.drew.heap.size = W2.heap.size := rfl
  rename Ext W2.drew _ => hxA
  have hXF := (HX4.out.drew.trans hxA).trans hx5
  revert HLE5
  rename Hid (IsB _ _) => HLE3
  intro HLE5
  have le3 : IsB _ _ := HLE3.out
  have le4 : IsB _ _ := HLE5.out
  have h24 := (HX24.out.drew.trans hxA).trans hx5
  refine ⟨_, a1, a2, _, a3, rfl, Blk.new _ _ _, hlt12, by omega, by omega, by omega, hXF.alloc _ _, ((HLE1.out.ext HX12.out).ext h24).ext ((Ext.refl _).alloc _ _), (HLE2.out.ext h24).ext ((Ext.refl _).alloc _ _), (le3.ext hx5).ext ((Ext.refl _).alloc _ _), le4.ext ((Ext.refl _).alloc _ _), by omega⟩
theorem trees_any (w : World) : Calls Try.prog 28 #[] w (TreesPost w) :=
  (trees_any2 w).mono fun e w' ⟨T, a, b, c, d, h1, h2, h3, h4, h5, h6, h7, _⟩ => ⟨T, a, b, c, d, h1, h2, h3, h4, h5, h6, h7⟩
end Go.Proofs.Ytpapoalgocmlaaa
