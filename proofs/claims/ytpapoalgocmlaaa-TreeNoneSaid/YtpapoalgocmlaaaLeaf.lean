/- node.rising, node.Leaf, tree.leaf, tree.split at entries: leaves are made. -/
import Derived.Test.YtpapoalgocmlaaaInsertE
import Derived.Deep.RegionWith
namespace Go.Proofs.Ytpapoalgocmlaaa
open Go.RowKit
set_option linter.unusedVariables false

theorem leaf1_any (k : ByteArray) (v : Val) (sl so : Sl) (k' : ByteArray) (v' : Val) (sl' so' : Sl) (w : World) :
    Calls Try.prog 178 #[aggE k v sl so, aggE k' v' sl' so'] w fun e w' => e = .returned (.bool (klt k k')) ∧ Ext w w' := by
  go_enter Try.func178, Try.ntmps178
  go_wp2
  go_ret
  exact ⟨rfl, ((Ext.refl w).alloc _ _).alloc _ _⟩

/-- Are the first n keys (of the list) rising? -/
def risingN (xs : List LE) : Prop := ∀ i x y, xs[i]? = some x → xs[i + 1]? = some y → klt x.k y.k = true

set_option maxRecDepth 100000 in
set_option maxHeartbeats 800000 in
theorem rising_any {w : World} {s : Sl} {xs : List LE} (hs : ES w (Lt w.heap.size) s xs) (hr : risingN xs) :
    Calls Try.prog 177 #[.slice s.a xs.length s.c, .func (.func 178) #[] #[]] w fun e w' => e = .returned (.bool true) ∧ Ext w w' := by
  have hfew := hs.few
  have HS := Lib.hid hs
  have HR := Lib.hid hr
  clear hs hr
  go_enter Try.func177, Try.ntmps177
  go_wp2_with fail
  go_loopw [5] (fun q wr => ∃ m : Nat, (m + 1 ≤ xs.length ∨ m = 0) ∧ q = .int .i64 ((m : Int) + 1) ∧ Ext w wr) (fun q _ => xs.length - (intOf q).toNat)
  case atStart => exact ⟨0, .inr rfl, rfl, Ext.refl _⟩
  case round =>
    obtain ⟨m, hj, rfl, hx⟩ := hrel
    by_cases hlt : m + 1 < xs.length
    · obtain ⟨x, hxm⟩ : ∃ x, xs[m]? = some x := ⟨_, List.getElem?_eq_getElem (by omega)⟩
      obtain ⟨y, hym⟩ : ∃ y, xs[m + 1]? = some y := ⟨_, List.getElem?_eq_getElem hlt⟩
      obtain ⟨b, o, ha, hbo, hlc, hcm, hk0, hv, -⟩ := HS.out.at hxm
      obtain ⟨b', o', ha', -, -, -, hk0', hv', -⟩ := HS.out.at hym
      rw [ha] at ha'
      simp only [Option.some.injEq, Addr.mk.injEq, and_true] at ha'
      obtain ⟨rfl, rfl⟩ := ha'
      have hag : Agree (Lt w.heap.size) w wr := hx.agree fun _ h => h
      obtain ⟨v0, v1, v2, v3, v4, v5⟩ := (hv.agree hag hbo).m
      have vk := (hag.cell hbo).trans hk0
      obtain ⟨u0, u1, u2, u3, u4, u5⟩ := (hv'.agree hag hbo).m
      have uk := (hag.cell hbo).trans hk0'
      have hkk := HR.out m x y hxm hym
      have HK := Lib.hid hkk
      rw [ha]
      have hm1 : (m : Int) + 1 < (xs.length : Int) := by omega
      have hm0 : (m : Int) < (xs.length : Int) := by omega
      have hw1 : IntKind.i64.wrap (m : Int) = (m : Int) := by rw [IntKind.wrap_i64]; omega
      have hm2 : (0 : Int) ≤ (m : Int) + 1 := by omega
      have ht2 : ((m : Int) + 1).toNat = m + 1 := by omega
      clear hxm hym hk0 hk0' hv hv' hag ha hkk
      go_wp2_with fail
      have hbw : b < wr.heap.size := Nat.lt_of_lt_of_le hbo hx.size
      go_region_held3 (fun w' => w'.cell? ⟨b, o + m * 7, none⟩ = some (.string x.k) ∧ w'.cell? ⟨b, o + m * 7 + 1, none⟩ = some (.int .i64 x.v.kind) ∧ w'.cell? ⟨b, o + m * 7 + 2, none⟩ = some (.bool x.v.b) ∧ w'.cell? ⟨b, o + m * 7 + 3, none⟩ = some (.int .i64 x.v.i) ∧ w'.cell? ⟨b, o + m * 7 + 4, none⟩ = some (.string x.v.t) ∧ w'.cell? ⟨b, o + m * 7 + 5, none⟩ = some (.slice x.sl.a x.v.l.length x.sl.c) ∧ w'.cell? ⟨b, o + m * 7 + 6, none⟩ = some (.slice x.so.a x.v.ok.length x.so.c) ∧ w'.cell? ⟨b, o + (m + 1) * 7, none⟩ = some (.string y.k) ∧ w'.cell? ⟨b, o + (m + 1) * 7 + 1, none⟩ = some (.int .i64 y.v.kind) ∧ w'.cell? ⟨b, o + (m + 1) * 7 + 2, none⟩ = some (.bool y.v.b) ∧ w'.cell? ⟨b, o + (m + 1) * 7 + 3, none⟩ = some (.int .i64 y.v.i) ∧ w'.cell? ⟨b, o + (m + 1) * 7 + 4, none⟩ = some (.string y.v.t) ∧ w'.cell? ⟨b, o + (m + 1) * 7 + 5, none⟩ = some (.slice y.sl.a y.v.l.length y.sl.c) ∧ w'.cell? ⟨b, o + (m + 1) * 7 + 6, none⟩ = some (.slice y.so.a y.v.ok.length y.so.c)) (go_keep)
        ((go_at_call 178; refine (leaf1_any _ _ _ _ _ _ _ _ _).mono ?_; rintro e w' ⟨rfl, hx'⟩; have ho' : ∀ o', w'.cell? ⟨b, o', none⟩ = wr.cell? ⟨b, o', none⟩ := fun o' => hx'.cell hbw))
      have hX := hx.trans ((Ext.refl wr).drew.trans hx')
      have HX := Lib.hid hX
      clear hX ho'
      rw [HK.out]
      go_wp2_with fail
      go_roundw
      case rel => exact ⟨m + 1, .inl (by omega), by go_num, HX.out⟩
      case measure => simp [intOf]; omega
    · go_wp2_with fail
      go_ret
      exact ⟨rfl, hx⟩

/-- A leaf that was made behind its copied row. -/
theorem leaf_made {w w2 w3 : World} {s' : Sl} {xs xs' : List LE} {a : Nat} {f l : ByteArray} (hX : Ext w w2) (hx : Ext w2 w3) (hm : xs'.map LE.ent = xs.map LE.ent) {B : Nat} (hB : w.heap.size ≤ B) (ho : OE w2 B s' xs')
    (ha : w2.heap.size ≤ a) (hf : f = firstK (xs.map LE.ent)) (hl : l = lastK (xs.map LE.ent)) (hb : Blk w3 a 175 #[.slice s'.a xs'.length s'.c, .slice none 0 0, .int .i64 0, .int .i64 xs'.length, .string f, .string l, .bool false]) :
    IsN w3 (In w.heap.size w3.heap.size) 0 (a, xs.map LE.ent) :=
  ⟨⟨Nat.le_trans hX.size ha, hb.lt⟩, s', xs', by subst hf hl; exact hb, (ho.es.agree (hx.agree fun _ h => h.2)).mono fun _ h => ⟨Nat.le_trans hB h.1, Nat.lt_of_lt_of_le h.2 hx.size⟩, hm⟩

/-- What Leaf hands back. -/
def LeafPost (es : List Ent) (w : World) (e : Ending) (w' : World) : Prop :=
  ∃ a : Nat, e = .returned (.tuple #[.pointer (some ⟨a, 0, none⟩), .int .i64 0]) ∧ w.heap.size ≤ a ∧ IsN w' (In w.heap.size w'.heap.size) 0 (a, es) ∧ Ext w w'

set_option maxRecDepth 100000 in
set_option maxHeartbeats 800000 in
theorem nleaf_any {w : World} {s : Sl} {xs : List LE} (hs : ES w (Lt w.heap.size) s xs) (hr : risingN xs) (h8 : xs.length ≤ 8) :
    Calls Try.prog 154 #[.slice s.a xs.length s.c] w (LeafPost (xs.map LE.ent) w) := by
  have HS := Lib.hid hs
  have hri := rising_any hs hr
  have hg : ¬ (8 : Int) < (xs.length : Int) := by omega
  have hg' : decide ((8 : Int) < (xs.length : Int)) = false := by simp; omega
  have hco : ∀ W, Ext w W → Calls Try.prog 155 #[.slice s.a xs.length s.c] W (CopiesPost xs W) := fun W hW =>
    copies_any ((HS.out.agree (hW.agree fun _ h => h)).mono fun i hi => Nat.lt_of_lt_of_le hi hW.size)
  have HC := Lib.hid hco
  clear hs hco hr
  go_enter Try.func154, Try.ntmps154
  go_wp2_with fail
  refine hri.mono ?_
  rintro e w1 ⟨rfl, hx1⟩
  go_wp2_with fail
  refine (HC.out w1 hx1).mono ?_
  rintro e w2 ⟨s', xs', rfl, hm, ho, hx2⟩
  have HM := Lib.hid hm
  have HO := Lib.hid ho
  have hlen : xs'.length = xs.length := by have := congrArg List.length hm; simpa using this
  have HL := Lib.hid hlen
  have hX := hx1.trans hx2
  have HX := Lib.hid hX
  have hsz := hx1.size
  by_cases h0 : 0 < xs.length
  · obtain ⟨x, hxx⟩ : ∃ x, xs[0]? = some x := ⟨_, List.getElem?_eq_getElem h0⟩
    obtain ⟨y, hyy⟩ : ∃ y, xs[xs.length - 1]? = some y := ⟨_, List.getElem?_eq_getElem (by omega)⟩
    obtain ⟨b, o, ha, hbo, hlc, hcm, hk0, -⟩ := HS.out.at hxx
    obtain ⟨b', o', ha', -, -, -, hk1, -⟩ := HS.out.at hyy
    rw [ha] at ha'
    simp only [Option.some.injEq, Addr.mk.injEq, and_true] at ha'
    obtain ⟨rfl, rfl⟩ := ha'
    rw [Nat.zero_mul, Nat.add_zero] at hk0
    have vk := (hX.cell hbo).trans hk0
    have vl := (hX.cell hbo).trans hk1
    have hbw : b < w2.heap.size := Nat.lt_of_lt_of_le hbo hX.size
    have hf : firstK (xs.map LE.ent) = x.k := by rw [firstK, List.head?_map, List.head?_eq_getElem?, hxx]; rfl
    have hl : lastK (xs.map LE.ent) = y.k := by rw [lastK, List.getLast?_map, List.getLast?_eq_getElem?, hyy]; rfl
    have HFL := Lib.hid (And.intro hf hl)
    have hw1 : IntKind.i64.wrap ((xs.length : Int) - 1) = (xs.length : Int) - 1 := by rw [IntKind.wrap_i64]; omega
    have hm2 : (0 : Int) ≤ (xs.length : Int) - 1 := by omega
    have hm3 : (xs.length : Int) - 1 < (xs.length : Int) := by omega
    have hm4 : (0 : Int) < (xs.length : Int) := by omega
    have ht2 : ((xs.length : Int) - 1).toNat = xs.length - 1 := by omega
    rw [ha]
    clear hm ho hri hlen hX hxx hyy hk0 hk1 ha hf hl hx1 hx2
    go_wp2_with fail
    go_region
    all_goals go_wp2_with fail
    all_goals go_ret2
    refine ⟨w2.heap.size, rfl, HX.out.size, ?_, (HX.out.alloc _ _).drew⟩
    refine leaf_made HX.out (((Ext.refl w2).alloc _ _).drew) HM.out hsz HO.out (Nat.le_refl _) HFL.out.1.symm HFL.out.2.symm ?_
    rw [HL.out]
    exact Blk.new _ _ _
  · have hxs : xs = [] := List.eq_nil_of_length_eq_zero (by omega)
    subst hxs
    clear hm ho hri hX hx1 hx2
    go_wp2_with fail
    go_ret2
    refine ⟨w2.heap.size, rfl, HX.out.size, ?_, HX.out.alloc _ _⟩
    refine leaf_made HX.out ((Ext.refl w2).alloc _ _) HM.out hsz HO.out (Nat.le_refl _) (f := ByteArray.empty) (l := ByteArray.empty) rfl rfl ?_
    rw [HL.out]
    exact Blk.new _ _ _

/-- tree.leaf hands back the leaf alone. -/
def LeafPost1 (es : List Ent) (w : World) (e : Ending) (w' : World) : Prop :=
  ∃ t : PT 0, e = .returned (ptr 0 t) ∧ t.2 = es ∧ w.heap.size ≤ addr 0 t ∧ IsN w' (In w.heap.size w'.heap.size) 0 t ∧ Ext w w'

set_option maxRecDepth 100000 in
theorem tleaf_any {w : World} {s : Sl} {n : Nat} {xs : List LE} (hs : ES w (Lt w.heap.size) s xs) (hn : n = xs.length) (hr : risingN xs) (h8 : xs.length ≤ 8) :
    Calls Try.prog 136 #[.slice s.a n s.c] w (LeafPost1 (xs.map LE.ent) w) := by
  subst hn
  have hc := nleaf_any hs hr h8
  clear hs hr
  go_enter Try.func136, Try.ntmps136
  go_wp2_with fail
  refine hc.mono ?_
  rintro e w' ⟨a, rfl, h1, h2, h3⟩
  have H2 := Lib.hid h2
  clear h2
  go_wp2_with fail
  go_ret
  exact ⟨(a, xs.map LE.ent), rfl, rfl, h1, H2.out, h3⟩

theorem Rd.take {w : World} {F : Nat → Prop} {size n : Nat} {s : Sl} {cs : List Value} (h : Rd w F size s n cs) {m : Nat} (hm : m ≤ n) : Rd w F size s m (cs.take (m * size)) := by
  obtain ⟨b, o, h1, h2, h3⟩ := h
  have hms : m * size ≤ n * size := Nat.mul_le_mul_right _ hm
  refine ⟨b, o, ?_, by rw [List.length_take]; omega, fun j u hj => h3 j u ?_⟩
  · cases h1 with
    | nil => have : m = 0 := by omega
             subst this; exact .nil _ _
    | some _ c _ _ h hc hb => exact .some _ c _ _ (by omega) hc hb
  · rw [List.getElem?_take] at hj
    split at hj
    · exact hj
    · cases hj
theorem Rd.drop {w : World} {F : Nat → Prop} {size n b o c : Nat} {cs : List Value} (h : Rd w F size ⟨some ⟨b, o, none⟩, c⟩ n cs) {m : Nat} (hm : m ≤ n) : Rd w F size ⟨some ⟨b, o + m * size, none⟩, c - m⟩ (n - m) (cs.drop (m * size)) := by
  obtain ⟨b', o', h1, h2, h3⟩ := h
  cases h1 with
  | some _ _ _ _ h hc hb =>
    refine ⟨b, o + m * size, .some _ _ _ _ (by omega) (by omega) hb, by rw [List.length_drop, h2, ← Nat.sub_mul], fun j u hj => ?_⟩
    rw [List.getElem?_drop] at hj
    rw [Nat.add_assoc]
    exact h3 _ u hj
theorem ES.take {w : World} {F : Nat → Prop} {s : Sl} {xs : List LE} (h : ES w F s xs) {m : Nat} (hm : m ≤ xs.length) : ES w F s (xs.take m) :=
  ⟨by rw [List.length_take, Nat.min_eq_left hm, ← flatE_take]; exact h.rd.take hm, fun x hx => h.vals x (List.mem_of_mem_take hx), by have := h.few; rw [List.length_take]; omega⟩
theorem ES.drop {w : World} {F : Nat → Prop} {b o c : Nat} {xs : List LE} (h : ES w F ⟨some ⟨b, o, none⟩, c⟩ xs) {m : Nat} (hm : m ≤ xs.length) : ES w F ⟨some ⟨b, o + m * 7, none⟩, c - m⟩ (xs.drop m) :=
  ⟨by rw [List.length_drop, ← flatE_drop]; exact h.rd.drop hm, fun x hx => h.vals x (List.mem_of_mem_drop hx), by have := h.few; rw [List.length_drop]; omega⟩
theorem risingN.take {xs : List LE} (h : risingN xs) (m : Nat) : risingN (xs.take m) := fun i x y hx hy => by
  rw [List.getElem?_take] at hx hy
  split at hx <;> split at hy
  · exact h i x y hx hy
  all_goals first | cases hx | cases hy
theorem risingN.drop {xs : List LE} (h : risingN xs) (m : Nat) : risingN (xs.drop m) := fun i x y hx hy => by
  rw [List.getElem?_drop] at hx hy
  exact h _ x y hx hy
theorem risingN_of {xs : List LE} (h : Sorted (xs.map LE.ent)) : risingN xs := fun i x y hx hy =>
  sorted_lt (a := x.ent) (b := y.ent) h (Nat.lt_succ_self i) (by rw [List.getElem?_map, hx]; rfl) (by rw [List.getElem?_map, hy]; rfl)

/-- One node, or two. -/
def two (h : Nat) : List (PT h) → Ending
  | [t] => .returned (.tuple #[ptr h t, .pointer none])
  | [t, u] => .returned (.tuple #[ptr h t, ptr h u])
  | _ => .returned (.tuple #[])
def chunk {α : Type} (l : List α) : List (List α) := if l.length ≤ 8 then [l] else [l.take 4, l.drop 4]
def SplitPostE (es : List Ent) (w : World) (e : Ending) (w' : World) : Prop :=
  ∃ ts : List (PT 0), e = two 0 ts ∧ ts.map Prod.snd = chunk es ∧ (∀ t ∈ ts, w.heap.size ≤ addr 0 t ∧ IsN w' (In w.heap.size w'.heap.size) 0 t) ∧ Ext w w'

theorem LeafPost1.grow {w w1 w2 w3 : World} {t : PT 0} (h1 : Ext w w1) (h2 : Ext w2 w3) (ha : w1.heap.size ≤ addr 0 t) (hn : IsN w2 (In w1.heap.size w2.heap.size) 0 t) : w.heap.size ≤ addr 0 t ∧ IsN w3 (In w.heap.size w3.heap.size) 0 t :=
  ⟨Nat.le_trans h1.size ha, (hn.agree (h2.agree fun _ h => h.2)).mono fun _ h => ⟨Nat.le_trans h1.size h.1, Nat.lt_of_lt_of_le h.2 h2.size⟩⟩

set_option maxRecDepth 100000 in
set_option maxHeartbeats 800000 in
theorem splitE_any {w : World} {s : Sl} {xs : List LE} (hs : ES w (Lt w.heap.size) s xs) (hr : risingN xs) (h8 : xs.length ≤ 9) :
    Calls Try.prog 135 #[.slice s.a xs.length s.c, .func (.func 136) #[] #[]] w (SplitPostE (xs.map LE.ent) w) := by
  by_cases h : xs.length ≤ 8
  · have hc := tleaf_any hs rfl hr h
    have hl : (xs.length : Int) ≤ 8 := by omega
    clear hs hr
    go_enter Try.func135, Try.ntmps135
    go_wp2_with fail
    refine hc.mono ?_
    rintro e w' ⟨t, rfl, h1, h2, h3, h4⟩
    have H3 := Lib.hid h3
    clear h3
    go_wp2_with fail
    go_ret2
    exact ⟨[t], rfl, by show [t.2] = _; rw [h1, chunk, if_pos (by simpa using h)], by simpa using ⟨h2, H3.out⟩, h4⟩
  · have h9 : xs.length = 9 := by omega
    have hs' := hs.at (i := 0) (x := xs[0]'(by omega)) (List.getElem?_eq_getElem (by omega))
    obtain ⟨b, o, ha, hbo, hlc, hcm, -⟩ := hs'
    have hseq : s = ⟨some ⟨b, o, none⟩, s.c⟩ := by cases s; simp_all
    have hcL : ∀ W, Ext w W → Calls Try.prog 136 #[.slice (some ⟨b, o, none⟩) 4 s.c] W (LeafPost1 ((xs.take 4).map LE.ent) W) := fun W hW => by
      have := tleaf_any (w := W) (n := 4) (s := s) (xs := xs.take 4) (((hs.take (m := 4) (by omega)).agree (hW.agree fun _ h => h)).mono fun i hi => Nat.lt_of_lt_of_le hi hW.size) (by rw [List.length_take]; omega) (hr.take 4) (by rw [List.length_take]; omega)
      rw [hseq] at this
      exact this
    have hcR : ∀ W, Ext w W → Calls Try.prog 136 #[.slice (some ⟨b, o + 28, none⟩) 5 (s.c - 4)] W (LeafPost1 ((xs.drop 4).map LE.ent) W) := fun W hW => by
      have hs2 := hs
      rw [hseq] at hs2
      exact tleaf_any (w := W) (n := 5) (s := ⟨some ⟨b, o + 28, none⟩, s.c - 4⟩) (xs := xs.drop 4) (((hs2.drop (m := 4) (by omega)).agree (hW.agree fun _ h => h)).mono fun i hi => Nat.lt_of_lt_of_le hi hW.size) (by rw [List.length_drop]; omega) (hr.drop 4) (by rw [List.length_drop]; omega)
    have HL := Lib.hid hcL
    have HR := Lib.hid hcR
    clear hcL hcR hs hr hseq
    rw [ha, h9]
    rw [h9] at hlc
    have hl4 : 4 ≤ s.c := by omega
    unfold maxLen at hcm
    go_enter Try.func135, Try.ntmps135
    go_wp2_with fail
    go_region_with (first
      | (go_at_call_of 136 (Value.slice (some ⟨b, o, none⟩) 4 s.c); refine (HL.out _ ?_).mono ?_; exact (Ext.refl w).drew; rintro e w1 ⟨t, rfl, h1, h2, h3, h4⟩; have H3 := Lib.hid h3; clear h3)
      | (go_at_call 136; refine (HR.out _ ?_).mono ?_; exact (Ext.refl w).drew.trans h4; rintro e w2 ⟨u, rfl, k1, k2, k3, k4⟩; have K3 := Lib.hid k3; clear k3))
    all_goals go_wp2_with fail
    all_goals go_ret2
    have hX := (Ext.refl w).drew.trans h4
    refine ⟨[t, u], rfl, ?_, ?_, hX.trans k4⟩
    · show [t.2, u.2] = _
      rw [h1, k1, chunk, if_neg (by simp; omega), List.map_take, List.map_drop]
    · intro x hx
      rcases List.mem_cons.1 hx with rfl | hx
      · exact LeafPost1.grow (Ext.refl w).drew k4 h2 H3.out
      · rcases List.mem_cons.1 hx with rfl | hx
        · exact LeafPost1.grow hX (Ext.refl w2) k2 K3.out
        · simp at hx
end Go.Proofs.Ytpapoalgocmlaaa
