/- node.Inner, tree.inner, tree.split at nodes: inner nodes are made. -/
import Derived.Test.YtpapoalgocmlaaaLeaf
namespace Go.Proofs.Ytpapoalgocmlaaa
open Go.RowKit
set_option linter.unusedVariables false

theorem Rd.ptr_at {w : World} {F : Nat → Prop} {h : Nat} {s : Sl} {ks : List (PT h)} (hr : Rd w F 1 s ks.length (ptrs h ks)) {i : Nat} {k : PT h} (hk : ks[i]? = some k) :
    ∃ b o, s.a = some ⟨b, o, none⟩ ∧ F b ∧ ks.length ≤ s.c ∧ s.c ≤ maxLen ∧ w.cell? ⟨b, o + i, none⟩ = some (ptr h k) := by
  obtain ⟨b, o, h1, h2, h3⟩ := hr
  have hi : i < ks.length := (List.getElem?_eq_some_iff.1 hk).1
  obtain ⟨e1, e2, e3⟩ := h1.eq (by omega)
  exact ⟨b, o, e1, h1.fits (by omega), e2, e3, h3 i _ (by rw [ptrs, List.getElem?_map, hk]; rfl)⟩

theorem drew3 (w : World) (a b c : Nat) : (w.drewN (a + b)).drewN c = w.drewN (a + (b + c)) := by rw [World.drewN_drewN, Nat.add_assoc]
theorem inner1_any {w : World} {F G : Nat → Prop} {h : Nat} {t u : PT h} (ht : IsN w F h t) (hu : IsN w G h u) : Calls Try.prog 175 #[ptr h t, ptr h u] w fun e w' => e = .returned (.bool (klt (lastK (ents h t)) (firstK (ents h u)))) ∧ ∃ q, w' = w.drewN q := by
  obtain ⟨-, se, sk, ne, nk, -, hb⟩ := ht.cells
  obtain ⟨-, -, -, -, -, h5, -⟩ := hb.c7
  obtain ⟨-, se', sk', ne', nk', -, hb'⟩ := hu.cells
  obtain ⟨-, -, -, -, h4, -, -⟩ := hb'.c7
  clear hb hb' ht hu
  go_enter Try.func175, Try.ntmps175
  go_wp2_with fail
  go_quiet (fail)
  go_wp2
  go_ret
  exact ⟨rfl, _, rfl⟩

/-- Kids whose keys rise. -/
def risingK (h : Nat) (ks : List (PT h)) : Prop := ∀ i x y, ks[i]? = some x → ks[i + 1]? = some y → klt (lastK (ents h x)) (firstK (ents h y)) = true
theorem risingK.take {h : Nat} {xs : List (PT h)} (hr : risingK h xs) (m : Nat) : risingK h (xs.take m) := fun i x y hx hy => by
  rw [List.getElem?_take] at hx hy
  split at hx <;> split at hy
  · exact hr i x y hx hy
  all_goals first | cases hx | cases hy
theorem risingK.drop {h : Nat} {xs : List (PT h)} (hr : risingK h xs) (m : Nat) : risingK h (xs.drop m) := fun i x y hx hy => by
  rw [List.getElem?_drop] at hx hy
  exact hr _ x y hx hy

set_option maxRecDepth 100000 in
set_option maxHeartbeats 800000 in
theorem risingP_any {w : World} {F : Nat → Prop} {h : Nat} {s : Sl} {ks : List (PT h)} (hs : Rd w F 1 s ks.length (ptrs h ks)) (hk : ∀ k ∈ ks, IsN w F h k) (hr : risingK h ks) (hn : ks.length ≤ 1000) :
    Calls Try.prog 174 #[.slice s.a ks.length s.c, .func (.func 175) #[] #[]] w fun e w' => e = .returned (.bool true) ∧ ∃ q, w' = w.drewN q := by
  have HS := Lib.hid hs
  have HR := Lib.hid hr
  have HK := Lib.hid hk
  clear hs hr hk
  go_enter Try.func174, Try.ntmps174
  go_wp2_with fail
  go_loopw [5] (fun q wr => ∃ m : Nat, (m + 1 ≤ ks.length ∨ m = 0) ∧ q = .int .i64 ((m : Int) + 1) ∧ ∃ q, wr = w.drewN q) (fun q _ => ks.length - (intOf q).toNat)
  case atStart => exact ⟨0, .inr rfl, rfl, 0, rfl⟩
  case round =>
    obtain ⟨m, hj, rfl, qq, rfl⟩ := hrel
    by_cases hlt : m + 1 < ks.length
    · obtain ⟨x, hxm⟩ : ∃ x, ks[m]? = some x := ⟨_, List.getElem?_eq_getElem (by omega)⟩
      obtain ⟨y, hym⟩ : ∃ y, ks[m + 1]? = some y := ⟨_, List.getElem?_eq_getElem hlt⟩
      obtain ⟨b, o, ha, hbo, hlc, hcm, hk0⟩ := HS.out.ptr_at hxm
      obtain ⟨b', o', ha', -, -, -, hk1⟩ := HS.out.ptr_at hym
      rw [ha] at ha'
      simp only [Option.some.injEq, Addr.mk.injEq, and_true] at ha'
      obtain ⟨rfl, rfl⟩ := ha'
      have c0 : w.cell? ⟨b, o + m, none⟩ = some (ptr h x) := hk0
      have c1 : w.cell? ⟨b, o + (m + 1), none⟩ = some (ptr h y) := hk1
      have hc := fun W (e : ∃ q, W = w.drewN q) => inner1_any (w := W) (((HK.out x (List.mem_of_getElem? hxm)).agree (F := F) (by obtain ⟨q, rfl⟩ := e; exact Agree.drewN w q))) (((HK.out y (List.mem_of_getElem? hym)).agree (F := F) (by obtain ⟨q, rfl⟩ := e; exact Agree.drewN w q)))
      have hkk := HR.out m x y hxm hym
      have HKK := Lib.hid hkk
      have HC := Lib.hid hc
      rw [ha]
      have hm1 : (m : Int) + 1 < (ks.length : Int) := by omega
      have hm0 : (m : Int) < (ks.length : Int) := by omega
      have hw1 : IntKind.i64.wrap (m : Int) = (m : Int) := by rw [IntKind.wrap_i64]; omega
      have hm2 : (0 : Int) ≤ (m : Int) + 1 := by omega
      have ht2 : ((m : Int) + 1).toNat = m + 1 := by omega
      clear hxm hym hk0 hk1 ha hkk hc
      go_wp2_with fail
      go_quiet ((go_at_call 175; refine (HC.out _ ⟨_, rfl⟩).mono ?_; rw [HKK.out]; rintro e w2 ⟨rfl, q2, rfl⟩; exact ⟨rfl, _, drew3 ..⟩))
      go_wp2_with fail
      go_roundw
      case rel => exact ⟨m + 1, .inl (by omega), by go_num, _, rfl⟩
      case measure => simp [intOf]; omega
    · go_wp2_with fail
      go_ret
      exact ⟨rfl, _, rfl⟩

theorem Rd.one (w : World) (t : TypeId) (u : Value) : Rd (w.alloc (.cells #[u] t)) (fun _ => True) 1 ⟨some ⟨w.heap.size, 0, none⟩, 1⟩ 1 [u] :=
  ⟨w.heap.size, 0, .some _ _ _ _ (Nat.le_refl _) (by decide) trivial, rfl, fun j v hj => by rw [(Blk.new w t #[u]).cell]; simpa using hj⟩
/-- How many entries kids have. -/
def cnt (h : Nat) (ks : List (PT h)) : Nat := (ks.flatMap (ents h)).length
def thinB (h : Nat) (ks : List (PT h)) : Bool := ks.any fun k => thin h k || decide (size h k < 4)
theorem cnt_take {h : Nat} {ks : List (PT h)} {j : Nat} {k : PT h} (hk : ks[j]? = some k) : cnt h (ks.take (j + 1)) = cnt h (ks.take j) + (ents h k).length := by
  rw [cnt, List.take_add_one, hk]; simp [cnt]
theorem thinB_take {h : Nat} {ks : List (PT h)} {j : Nat} {k : PT h} (hk : ks[j]? = some k) : thinB h (ks.take (j + 1)) = (thinB h (ks.take j) || (thin h k || decide (size h k < 4))) := by
  rw [thinB, List.take_add_one, hk]; simp [thinB]
theorem cnt_take_le (h : Nat) (ks : List (PT h)) (j : Nat) : cnt h (ks.take j) ≤ cnt h ks := by
  have : cnt h ks = cnt h (ks.take j) + cnt h (ks.drop j) := by
    simp only [cnt]; rw [← List.length_append, ← List.flatMap_append, List.take_append_drop]
  omega
theorem sound0_not (h : Nat) (t : PT h) : (!sound0 h t) = (thin h t || decide (size h t < 4)) := by
  unfold sound0
  cases thin h t
  · simp
    by_cases h : 4 ≤ size h t
    · simp [h]
    · simp [h]; omega
  · simp
theorem ptrs_take (h : Nat) (ks : List (PT h)) (j : Nat) : ptrs h (ks.take j) = (ptrs h ks).take j := by simp [ptrs, List.map_take]

theorem firstK_app {a b : List Ent} (h : 0 < a.length) : firstK (a ++ b) = firstK a := by
  cases a with
  | nil => simp at h
  | cons x xs => rfl
theorem lastK_app {a b : List Ent} (h : 0 < b.length) : lastK (a ++ b) = lastK b := by
  unfold lastK
  rw [List.getLast?_append]
  cases hb : b.getLast? with
  | none => rw [List.getLast?_eq_none_iff.1 hb] at h; simp at h
  | some x => rfl
theorem firstK_flat {h a : Nat} {ks : List (PT h)} {k : PT h} (hk : ks[0]? = some k) (hp : 0 < (ents h k).length) : firstK (ents (h + 1) (a, ks)) = firstK (ents h k) := by
  cases ks with
  | nil => simp at hk
  | cons x xs =>
    simp at hk; subst hk
    show firstK ((x :: xs).flatMap (ents h)) = _
    rw [List.flatMap_cons, firstK_app hp]
theorem lastK_flat {h a : Nat} {ks : List (PT h)} {k : PT h} (hk : ks[ks.length - 1]? = some k) (hp : 0 < (ents h k).length) : lastK (ents (h + 1) (a, ks)) = lastK (ents h k) := by
  have e : ks = ks.dropLast ++ [k] := by
    have : ks.getLast? = some k := by rw [List.getLast?_eq_getElem?]; exact hk
    obtain ⟨ys, rfl⟩ := List.getLast?_eq_some_iff.1 this
    simp
  show lastK (ks.flatMap (ents h)) = _
  rw [e, List.flatMap_append, lastK_app (by simpa using hp)]
  simp
/-- Blocks of F, or new ones. -/
abbrev Up (F : Nat → Prop) (w w' : World) : Nat → Prop := fun b => F b ∨ (w.heap.size ≤ b ∧ b < w'.heap.size)
/-- What Inner hands back. -/
def InnerPost (F : Nat → Prop) (h : Nat) (ks : List (PT h)) (w : World) (e : Ending) (w' : World) : Prop :=
  ∃ a : Nat, e = .returned (.tuple #[.pointer (some ⟨a, 0, none⟩), .int .i64 0]) ∧ w.heap.size ≤ a ∧ IsN w' (Up F w w') (h + 1) (a, ks) ∧ Ext w w'

set_option maxRecDepth 100000 in
set_option maxHeartbeats 1000000 in
theorem ninner_any {w : World} {F : Nat → Prop} {h : Nat} {s : Sl} {ks : List (PT h)} (hF : ∀ b, F b → b < w.heap.size) (hs : Rd w (Lt w.heap.size) 1 s ks.length (ptrs h ks)) (hk : ∀ k ∈ ks, IsN w F h k) (hr : risingK h ks)
    (h2 : 2 ≤ ks.length) (h8 : ks.length ≤ 8) (hpos : ∀ k ∈ ks, 0 < (ents h k).length) (hsz : ∀ k ∈ ks, size h k ≤ 1000) (hcn : cnt h ks ≤ 1000000000) (hh : h ≤ 1000000000) :
    Calls Try.prog 141 #[.slice s.a ks.length s.c] w (InnerPost F h ks w) := by
  obtain ⟨i0, hi, hz0, hz1, hz2⟩ := info_parts Try.infoPNode
  have HS := Lib.hid hs
  have HK := Lib.hid hk
  have HR := Lib.hid hr
  have HF := Lib.hid hF
  have HP := Lib.hid hpos
  have HZ := Lib.hid hsz
  have g1 : ¬ (ks.length : Int) < 2 := by omega
  have g1' : decide ((ks.length : Int) < 2) = false := by simp; omega
  have g2 : ¬ (8 : Int) < (ks.length : Int) := by omega
  have g2' : decide ((8 : Int) < (ks.length : Int)) = false := by simp; omega
  obtain ⟨k0, hk0⟩ : ∃ x, ks[0]? = some x := ⟨_, List.getElem?_eq_getElem (by omega)⟩
  obtain ⟨b, o, ha, hbo, hlc, hcm, hc0⟩ := HS.out.ptr_at hk0
  have hch := height_any (HK.out k0 (List.mem_of_getElem? hk0))
  have HA := Lib.hid ha
  have HK0 := Lib.hid hk0
  rw [Nat.add_zero] at hc0
  have HC0 := Lib.hid hc0
  have hi0 : (0 : Int) < (ks.length : Int) := by omega
  rw [ha]
  clear hs hk hr hF hpos hsz ha hk0
  go_enter Try.func141, Try.ntmps141
  go_wp2_with fail
  refine hch.mono ?_
  rintro e w1 ⟨rfl, rfl⟩
  go_wp2_with fail
  have hx0 : Ext w (w.alloc (.cells #[.slice none 0 0, .slice none 0 0, .int .i64 ((h : Int) + 1), .int .i64 0, .string ByteArray.empty, .string ByteArray.empty, .bool false] 175)) := (Ext.refl w).alloc _ _
  go_loopw [24] (fun q wr => ∃ (j : Nat) (sk : Sl), j ≤ ks.length ∧ q = .int .i64 j ∧ Ext w wr ∧ Blk wr w.heap.size 175 #[.slice none 0 0, .slice sk.a j sk.c, .int .i64 ((h : Int) + 1), .int .i64 (cnt h (ks.take j)), .string ByteArray.empty, .string ByteArray.empty, .bool (thinB h (ks.take j))] ∧
      wr.ownsRow (w.heap.size + 1) 28 1 (.slice sk.a j sk.c) j (ptrs h (ks.take j))) (fun q _ => ks.length - (intOf q).toNat)
  case atStart => exact ⟨0, Sl.none, Nat.zero_le _, rfl, hx0, Blk.new _ _ _, World.ownsRow_nil _ _ _ _⟩
  case round =>
    clear hx0 hch hc0
    obtain ⟨j, sk, hj, rfl, hx, hb, hown⟩ := hrel
    by_cases hlt : j < ks.length
    · obtain ⟨k, hkj⟩ : ∃ x, ks[j]? = some x := ⟨_, List.getElem?_eq_getElem hlt⟩
      obtain ⟨b', o', ha', -, -, -, hck⟩ := HS.out.ptr_at hkj
      rw [HA.out] at ha'
      simp only [Option.some.injEq, Addr.mk.injEq, and_true] at ha'
      obtain ⟨rfl, rfl⟩ := ha'
      have hkm := List.mem_of_getElem? hkj
      have hag : Agree F w wr := hx.agree fun i h => HF.out i h
      have vk := (hx.cell hbo).trans hck
      have hkn := (HK.out k hkm).agree hag
      obtain ⟨hFk, se, sk', ne, nk, hsn, hkb⟩ := hkn.cells
      obtain ⟨e0, e1, e2, e3, e4, e5, e6⟩ := hkb.c7
      obtain ⟨n0, n1, n2, n3, n4, n5, n6⟩ := hb.c7
      have hpk := HP.out k hkm
      have hnz : ((((ents h k).length : Nat) : Int) == 0) = false := beq_eq_false_iff_ne.2 (by omega)
      have hlt' : (j : Int) < (ks.length : Int) := by omega
      have hcc := fun W (e : ∃ q, W = wr.drewN q) => count_any (w := W) (F := F) (h := h) (t := k) (by obtain ⟨q, rfl⟩ := e; exact hkn.agree (Agree.drewN wr q))
      have HX := Lib.hid hx
      have HB := Lib.hid hb
      have HO := Lib.hid hown
      have HKN := Lib.hid hkn
      have HCC := Lib.hid hcc
      have HKJ := Lib.hid hkj
      have hwh : IntKind.i64.wrap ((h : Int) + 1) = (h : Int) + 1 := by rw [IntKind.wrap_i64]; omega
      have hbk : addr h k < wr.heap.size := hkb.lt
      have hbn : w.heap.size < wr.heap.size := hb.lt
      have h63 : j + 1 ≤ maxLen := by unfold maxLen; omega
      have how : ∀ W, Ext wr W → W.ownsRow (w.heap.size + 1) 28 1 (.slice sk.a j sk.c) j (ptrs h (ks.take j)) := fun W hW =>
        own_agree hown (hW.agree (F := Lt wr.heap.size) fun _ h => h) fun b hb => (hown.lt b (by obtain ⟨a, c⟩ := sk; cases a <;> simp_all [Value.ownBlock, Sl.row])).2
      have HOW := Lib.hid how
      have hrow : ∀ i, sk.row = some i → w.heap.size + 1 ≤ i := fun b hb => (hown.lt b (by obtain ⟨a, c⟩ := sk; cases a <;> simp_all [Value.ownBlock, Sl.row])).1
      have HROW := Lib.hid hrow
      have hne : ¬ addr h k = w.heap.size := by have := HF.out _ hFk; omega
      have hk1 : addr h k < w.heap.size + 1 := by have := HF.out _ hFk; omega
      have hcs := fun W (e : Agree (Lt w.heap.size) wr W) => sound_any (w := W) (F := F) (h := h) (t := k) (hkn.agree (e.mono fun i hi => HF.out i hi)) (HZ.out k hkm)
      have HCS := Lib.hid hcs
      have hcw : IntKind.i64.wrap ((cnt h (ks.take j) : Int) + ((ents h k).length : Int)) = ((cnt h (ks.take (j + 1)) : Nat) : Int) := by
        have := cnt_take hkj
        have := cnt_take_le h ks (j + 1)
        rw [IntKind.wrap_i64] <;> omega
      have htw := thinB_take hkj
      have hs0 := sound0_not h k
      have HTW := Lib.hid htw
      have HS0 := Lib.hid hs0
      clear hkj hck hag hkn hkb hb hown hcc hx how hrow hcs htw hs0
      go_wp2_with fail
      go_quiet ((go_at_call 114; refine (HCC.out _ ⟨_, rfl⟩).mono ?_; rintro e w2 ⟨rfl, rfl⟩; exact ⟨rfl, _, rfl⟩))
      go_wp2_with (at_builtin; refine wpList_append_x _ rfl _ _ 155 rfl (w.heap.size + 1) 28 i0 (.pointer none) 1 8 Try.underlying155 hi hz0 hz1 hz2 rfl (by decide) sk j (ptrs h (ks.take j)) rfl (HOW.out _ (((Ext.refl wr).drewN _).alloc _ _)) (fun _ => True) ⟨some ⟨wr.heap.size, 0, none⟩, 1⟩ 1 [ptr h k] rfl (Rd.one _ _ _) (by simp [Value.oneCell']) h63 (by omega) (by simp; omega) ?_; intro s' w1 hown1 hwr1 hsk; have ag1 : Agree (Lt (w.heap.size + 1)) wr w1 := (((Agree.drewN wr _).trans (Agree.alloc _ _ (fun i hi => Nat.lt_of_lt_of_le hi hbn))).trans (hwr1.agree (F := Lt (w.heap.size + 1)) (fun i hi => by simp; omega) (fun i hi h => by have := HROW.out i hi; omega))); have b1 := HB.out.agree ag1 (Nat.lt_succ_self _); obtain ⟨p0, p1, p2, p3, p4, p5, p6⟩ := b1.c7; have fz := fun i => b1.frozen i; have x3 := (ag1.cell (F := Lt (w.heap.size + 1)) (b := addr h k) (o := 3) hk1).trans e3; have HO1 := Lib.hid hown1; have HW1 := Lib.hid hwr1; have HB1 := Lib.hid b1; have AG1 := Lib.hid ag1; clear hown1 hwr1 hsk b1 ag1)
      go_region
      have hX3 : Ext w ((w1.setCell ⟨w.heap.size, 1, none⟩ (.slice s'.a (j + 1) s'.c)).setCell ⟨w.heap.size, 3, none⟩ (.int .i64 (cnt h (ks.take (j + 1))))).drew :=
        (((((HX.out.drewN _).alloc _ _).wr HW1.out (fun i hi => by have := HROW.out i hi; omega)).setCell (p := ⟨w.heap.size, 1, none⟩) (Nat.le_refl _) _).setCell (p := ⟨w.heap.size, 3, none⟩) (Nat.le_refl _) _).drew
      have hB3 : Blk ((w1.setCell ⟨w.heap.size, 1, none⟩ (.slice s'.a (j + 1) s'.c)).setCell ⟨w.heap.size, 3, none⟩ (.int .i64 (cnt h (ks.take (j + 1))))).drew w.heap.size 175 #[.slice none 0 0, .slice s'.a (j + 1 : Nat) s'.c, .int .i64 ((h : Int) + 1), .int .i64 (cnt h (ks.take (j + 1))), .string ByteArray.empty, .string ByteArray.empty, .bool (thinB h (ks.take j))] := (HB1.out.set_ 1 _).set_ 3 _
      have hag3 : Agree (Lt w.heap.size) wr ((w1.setCell ⟨w.heap.size, 1, none⟩ (.slice s'.a (j + 1) s'.c)).setCell ⟨w.heap.size, 3, none⟩ (.int .i64 (cnt h (ks.take (j + 1))))).drew :=
        ((AG1.out.mono fun i hi => Nat.lt_succ_of_lt hi).trans (Agree.setCell _ _ _ (fun h => Nat.lt_irrefl _ h))).trans (Agree.setCell _ _ _ (fun h => Nat.lt_irrefl _ h))
      have hO3 : ((w1.setCell ⟨w.heap.size, 1, none⟩ (.slice s'.a (j + 1) s'.c)).setCell ⟨w.heap.size, 3, none⟩ (.int .i64 (cnt h (ks.take (j + 1))))).drew.ownsRow (w.heap.size + 1) 28 1 (.slice s'.a (j + 1) s'.c) (j + 1) (ptrs h (ks.take (j + 1))) := by
        have e : ptrs h (ks.take (j + 1)) = ptrs h (ks.take j) ++ [ptr h k] := by rw [List.take_add_one, HKJ.out]; simp [ptrs]
        rw [e]
        refine own_agree HO1.out (F := fun i => w.heap.size + 1 ≤ i) ((Agree.setCell w1 ⟨w.heap.size, 1, none⟩ _ (fun h => Nat.not_succ_le_self _ h)).trans (Agree.setCell _ ⟨w.heap.size, 3, none⟩ _ (fun h => Nat.not_succ_le_self _ h))) fun b hb => (HO1.out.lt b (by obtain ⟨a, c⟩ := s'; cases a <;> simp_all [Value.ownBlock, Sl.row])).1
      generalize World.drew _ = W3 at *
      have HX3 := Lib.hid hX3
      have HB3 := Lib.hid hB3
      have HA3 := Lib.hid hag3
      have HO3 := Lib.hid hO3
      have hbn3 := hB3.lt
      have hbk3 : addr h k < W3.heap.size := Nat.lt_of_lt_of_le (HF.out _ hFk) hX3.size
      obtain ⟨y0, y1, y2, y3, y4, y5, y6⟩ := hB3.c7
      have fy := fun i => hB3.frozen i
      clear hX3 hB3 hag3 hO3 fz x3 p0 p1 p2 p3 p4 p5 p6
      have fin : ∀ (q : Nat) (x : Bool), x = thinB h (ks.take (j + 1)) → Ext w ((W3.drewN q).setCell ⟨w.heap.size, 6, none⟩ (.bool x)) ∧
          Blk ((W3.drewN q).setCell ⟨w.heap.size, 6, none⟩ (.bool x)) w.heap.size 175 #[.slice none 0 0, .slice s'.a (j + 1 : Nat) s'.c, .int .i64 ((h : Int) + 1), .int .i64 (cnt h (ks.take (j + 1))), .string ByteArray.empty, .string ByteArray.empty, .bool (thinB h (ks.take (j + 1)))] ∧
          ((W3.drewN q).setCell ⟨w.heap.size, 6, none⟩ (.bool x)).ownsRow (w.heap.size + 1) 28 1 (.slice s'.a (j + 1) s'.c) (j + 1) (ptrs h (ks.take (j + 1))) := fun q x hx => by
        subst hx
        refine ⟨(HX3.out.drewN q).setCell (p := ⟨w.heap.size, 6, none⟩) (Nat.le_refl _) _, (show Blk (W3.drewN q) w.heap.size 175 _ from HB3.out).set_ 6 _, ?_⟩
        exact own_agree (w := W3.drewN q) (show (W3.drewN q).ownsRow _ _ _ _ _ _ from HO3.out) (F := fun i => w.heap.size + 1 ≤ i) (Agree.setCell _ ⟨w.heap.size, 6, none⟩ _ (fun h => Nat.not_succ_le_self _ h)) fun b hb => (HO3.out.lt b (by obtain ⟨a, c⟩ := s'; cases a <;> simp_all [Value.ownBlock, Sl.row])).1
      have FIN := Lib.hid fin
      clear fin
      cases htb : thinB h (ks.take j)
      · rw [htb] at y6
        have htw2 : thinB h (ks.take (j + 1)) = !sound0 h k := by rw [HTW.out, htb, HS0.out, Bool.false_or]
        have HT2 := Lib.hid htw2
        clear htw2
        go_wp2_with (go_at_call 115; refine (HCS.out _ HA3.out).mono ?_; rintro e w4 ⟨rfl, q4, rfl⟩)
        go_roundw
        case rel =>
          obtain ⟨f1, f2, f3⟩ := FIN.out q4 _ HT2.out.symm
          exact ⟨j + 1, s', by omega, by go_num, f1, f2, f3⟩
        case measure => simp [intOf]; omega
      · rw [htb] at y6
        have htw2 : thinB h (ks.take (j + 1)) = true := by rw [HTW.out, htb, Bool.true_or]
        have HT2 := Lib.hid htw2
        clear htw2
        go_wp2_with fail
        go_roundw
        case rel =>
          obtain ⟨f1, f2, f3⟩ := FIN.out 0 _ HT2.out.symm
          exact ⟨j + 1, s', by omega, by go_num, f1, f2, f3⟩
        case measure => simp [intOf]; omega
    · obtain rfl : j = ks.length := by omega
      have hag : Agree (Lt w.heap.size) w wr := hx.agree fun i h => h
      have hrs := risingP_any (w := wr) (HS.out.agree hag) (fun k hk => ((HK.out k hk).mono HF.out).agree hag) HR.out (by omega)
      rw [HA.out] at hrs
      have HRS := Lib.hid hrs
      obtain ⟨kl, hkl⟩ : ∃ x, ks[ks.length - 1]? = some x := ⟨_, List.getElem?_eq_getElem (by omega)⟩
      obtain ⟨b', o', ha', -, -, -, hcl⟩ := HS.out.ptr_at hkl
      rw [HA.out] at ha'
      simp only [Option.some.injEq, Addr.mk.injEq, and_true] at ha'
      obtain ⟨rfl, rfl⟩ := ha'
      have vl := (hx.cell hbo).trans hcl
      have v0 := (hx.cell hbo).trans HC0.out
      obtain ⟨hF0, se, sk0, ne, nk, -, hkb0⟩ := ((HK.out k0 (List.mem_of_getElem? HK0.out)).agree (hag.mono HF.out)).cells
      obtain ⟨hFl, se', skl, ne', nk', -, hkbl⟩ := ((HK.out kl (List.mem_of_getElem? hkl)).agree (hag.mono HF.out)).cells
      obtain ⟨-, -, -, -, e4, -, -⟩ := hkb0.c7
      obtain ⟨-, -, -, -, -, e5, -⟩ := hkbl.c7
      obtain ⟨n0, n1, n2, n3, n4, n5, n6⟩ := hb.c7
      have fz := fun i => hb.frozen i
      have hne0 : ¬ addr h k0 = w.heap.size := by have := HF.out _ hF0; omega
      have hnel : ¬ addr h kl = w.heap.size := by have := HF.out _ hFl; omega
      have hneb : ¬ b = w.heap.size := by omega
      have hbk0 : addr h k0 < wr.heap.size := hkb0.lt
      have hbkl : addr h kl < wr.heap.size := hkbl.lt
      have hbn : w.heap.size < wr.heap.size := hb.lt
      have hw1 : IntKind.i64.wrap ((ks.length : Int) - 1) = (ks.length : Int) - 1 := by rw [IntKind.wrap_i64]; omega
      have hm2 : (0 : Int) ≤ (ks.length : Int) - 1 := by omega
      have hm3 : (ks.length : Int) - 1 < (ks.length : Int) := by omega
      have ht2 : ((ks.length : Int) - 1).toNat = ks.length - 1 := by omega
      have HX := Lib.hid hx
      have HB := Lib.hid hb
      have HO := Lib.hid hown
      have HKL := Lib.hid hkl
      clear hag hrs hkl hcl hkb0 hkbl hb hx hown
      go_wp2_with (go_at_call 174; refine HRS.out.mono ?_; rintro e w2 ⟨rfl, q2, rfl⟩)
      go_region
      all_goals go_wp2_with fail
      all_goals go_ret2
      have hks := HO.out
      have hbb := HB.out
      rw [List.take_length] at hks hbb
      have hB' : Blk (((wr.drewN (q2 + 1)).setCell ⟨w.heap.size, 4, none⟩ (.string (firstK (ents h k0)))).setCell ⟨w.heap.size, 5, none⟩ (.string (lastK (ents h kl)))) w.heap.size 175 #[.slice none 0 0, .slice sk.a ks.length sk.c, .int .i64 ((h : Int) + 1), .int .i64 (cnt h ks), .string (firstK (ents h k0)), .string (lastK (ents h kl)), .bool (thinB h ks)] :=
        ((show Blk (wr.drewN (q2 + 1)) w.heap.size 175 _ from hbb).set_ 4 _).set_ 5 _
      have hX' : Ext w (((wr.drewN (q2 + 1)).setCell ⟨w.heap.size, 4, none⟩ (.string (firstK (ents h k0)))).setCell ⟨w.heap.size, 5, none⟩ (.string (lastK (ents h kl)))) :=
        ((HX.out.drewN _).setCell (p := ⟨w.heap.size, 4, none⟩) (Nat.le_refl _) _).setCell (p := ⟨w.heap.size, 5, none⟩) (Nat.le_refl _) _
      have hO' : (((wr.drewN (q2 + 1)).setCell ⟨w.heap.size, 4, none⟩ (.string (firstK (ents h k0)))).setCell ⟨w.heap.size, 5, none⟩ (.string (lastK (ents h kl)))).ownsRow (w.heap.size + 1) 28 1 (.slice sk.a ks.length sk.c) ks.length (ptrs h ks) :=
        own_agree (w := wr.drewN (q2 + 1)) (show (wr.drewN (q2 + 1)).ownsRow _ _ _ _ _ _ from hks) (F := fun i => w.heap.size + 1 ≤ i) ((Agree.setCell _ ⟨w.heap.size, 4, none⟩ _ (fun h => Nat.not_succ_le_self _ h)).trans (Agree.setCell _ ⟨w.heap.size, 5, none⟩ _ (fun h => Nat.not_succ_le_self _ h)))
          fun b hb => (hks.lt b (by obtain ⟨a, c⟩ := sk; cases a <;> simp_all [Value.ownBlock, Sl.row])).1
      generalize World.setCell _ _ _ = W at *
      refine ⟨w.heap.size, rfl, Nat.le_refl _, ?_, hX'⟩
      refine ⟨.inr ⟨Nat.le_refl _, hB'.lt⟩, sk, ?_, ((Rd.of_own hO').mono fun i hi => .inr ⟨Nat.le_of_succ_le hi.1, hi.2⟩), fun k hk => ((HK.out k hk).agree (hX'.agree fun i hi => HF.out i hi)).mono fun i hi => .inl hi⟩
      rw [show firstK (ents (h + 1) (w.heap.size, ks)) = firstK (ents h k0) from firstK_flat HK0.out (HP.out _ (List.mem_of_getElem? HK0.out)), show lastK (ents (h + 1) (w.heap.size, ks)) = lastK (ents h kl) from lastK_flat HKL.out (HP.out _ (List.mem_of_getElem? HKL.out))]
      exact hB'

/-- Kids that a node may have. -/
structure Kids (w : World) (F : Nat → Prop) (h : Nat) (ks : List (PT h)) : Prop where
  lt : ∀ b, F b → b < w.heap.size
  isn : ∀ k ∈ ks, IsN w F h k
  rise : risingK h ks
  pos : ∀ k ∈ ks, 0 < (ents h k).length
  sz : ∀ k ∈ ks, size h k ≤ 1000
  cn : cnt h ks ≤ 1000000000
  hh : h ≤ 1000000000
theorem cnt_drop_le (h : Nat) (ks : List (PT h)) (j : Nat) : cnt h (ks.drop j) ≤ cnt h ks := by
  have : cnt h ks = cnt h (ks.take j) + cnt h (ks.drop j) := by
    simp only [cnt]; rw [← List.length_append, ← List.flatMap_append, List.take_append_drop]
  omega
section
variable {w : World} {F : Nat → Prop} {h : Nat} {ks : List (PT h)}
theorem Kids.take (k : Kids w F h ks) (m : Nat) : Kids w F h (ks.take m) := ⟨k.lt, fun x hx => k.isn x (List.mem_of_mem_take hx), k.rise.take m, fun x hx => k.pos x (List.mem_of_mem_take hx), fun x hx => k.sz x (List.mem_of_mem_take hx), Nat.le_trans (cnt_take_le h ks m) k.cn, k.hh⟩
theorem Kids.drop (k : Kids w F h ks) (m : Nat) : Kids w F h (ks.drop m) := ⟨k.lt, fun x hx => k.isn x (List.mem_of_mem_drop hx), k.rise.drop m, fun x hx => k.pos x (List.mem_of_mem_drop hx), fun x hx => k.sz x (List.mem_of_mem_drop hx), Nat.le_trans (cnt_drop_le h ks m) k.cn, k.hh⟩
theorem Kids.ext (k : Kids w F h ks) {w' : World} (he : Ext w w') : Kids w' F h ks := ⟨fun b hb => Nat.lt_of_lt_of_le (k.lt b hb) he.size, fun x hx => (k.isn x hx).agree (he.agree k.lt), k.rise, k.pos, k.sz, k.cn, k.hh⟩
end
theorem Rd.ext {w w' : World} {size n : Nat} {s : Sl} {cs : List Value} (h : Rd w (Lt w.heap.size) size s n cs) (he : Ext w w') : Rd w' (Lt w'.heap.size) size s n cs := (h.agree (he.agree fun _ h => h)).mono fun i hi => Nat.lt_of_lt_of_le hi he.size

def InnerPost1 (F : Nat → Prop) (h : Nat) (ks : List (PT h)) (w : World) (e : Ending) (w' : World) : Prop :=
  ∃ t : PT (h + 1), e = .returned (ptr (h + 1) t) ∧ t.2 = ks ∧ w.heap.size ≤ addr (h + 1) t ∧ IsN w' (Up F w w') (h + 1) t ∧ Ext w w'
set_option maxRecDepth 100000 in
theorem tinner_any {w : World} {F : Nat → Prop} {h n : Nat} {s : Sl} {ks : List (PT h)} (hs : Rd w (Lt w.heap.size) 1 s ks.length (ptrs h ks)) (hn : n = ks.length) (hk : Kids w F h ks) (h2 : 2 ≤ ks.length) (h8 : ks.length ≤ 8) :
    Calls Try.prog 92 #[.slice s.a n s.c] w (InnerPost1 F h ks w) := by
  subst hn
  have hc := ninner_any hk.lt hs hk.isn hk.rise h2 h8 hk.pos hk.sz hk.cn hk.hh
  have hne : (((ks.length : Nat) : Int) == 1) = false := beq_eq_false_iff_ne.2 (by omega)
  clear hs hk
  go_enter Try.func92, Try.ntmps92
  go_wp2_with fail
  refine hc.mono ?_
  rintro e w' ⟨a, rfl, h1, h2, h3⟩
  have H2 := Lib.hid h2
  clear h2
  go_wp2_with fail
  go_ret
  exact ⟨(a, ks), rfl, rfl, h1, H2.out, h3⟩
/-- Of one kid it is that kid. -/
theorem tinner_one {w : World} {F : Nat → Prop} {h : Nat} {s : Sl} {k : PT h} (hs : Rd w F 1 s 1 (ptrs h [k])) :
    Calls Try.prog 92 #[.slice s.a 1 s.c] w fun e w' => e = .returned (ptr h k) ∧ w = w' := by
  obtain ⟨b, o, ha, hbo, hlc, hcm, hc0⟩ := Rd.ptr_at (ks := [k]) hs (i := 0) rfl
  rw [Nat.add_zero] at hc0
  rw [ha]
  clear hs ha
  go_enter Try.func92, Try.ntmps92
  go_wp2
  go_ret
  exact ⟨rfl, rfl⟩

/-- What split hands back: one node, or two. -/
def SplitPostP (F : Nat → Prop) (h : Nat) (ks : List (PT h)) (w : World) (e : Ending) (w' : World) : Prop :=
  ∃ ts : List (PT (h + 1)), e = two (h + 1) ts ∧ ts.map Prod.snd = chunk ks ∧ (∀ t ∈ ts, w.heap.size ≤ addr (h + 1) t ∧ IsN w' (Up F w w') (h + 1) t) ∧ Ext w w'
theorem InnerPost1.grow {F : Nat → Prop} {h : Nat} {w w1 w2 w3 : World} {t : PT (h + 1)} (hF : ∀ b, F b → b < w.heap.size) (h1 : Ext w w1) (he : Ext w1 w2) (h2 : Ext w2 w3) (ha : w1.heap.size ≤ addr (h + 1) t) (hn : IsN w2 (Up F w1 w2) (h + 1) t) : w.heap.size ≤ addr (h + 1) t ∧ IsN w3 (Up F w w3) (h + 1) t :=
  ⟨Nat.le_trans h1.size ha, (hn.agree (h2.agree fun i hi => hi.elim (fun h => Nat.lt_of_lt_of_le (hF i h) (Nat.le_trans h1.size he.size)) fun h => h.2)).mono fun i hi => hi.elim .inl fun h => .inr ⟨Nat.le_trans h1.size h.1, Nat.lt_of_lt_of_le h.2 h2.size⟩⟩

set_option maxRecDepth 100000 in
set_option maxHeartbeats 800000 in
theorem splitP_any {w : World} {F : Nat → Prop} {h : Nat} {s : Sl} {ks : List (PT h)} (hs : Rd w (Lt w.heap.size) 1 s ks.length (ptrs h ks)) (hk : Kids w F h ks) (h2 : 2 ≤ ks.length) (h9 : ks.length ≤ 9) :
    Calls Try.prog 140 #[.slice s.a ks.length s.c, .func (.func 92) #[] #[]] w (SplitPostP F h ks w) := by
  by_cases h' : ks.length ≤ 8
  · have hc := tinner_any hs rfl hk h2 h'
    have hl : (ks.length : Int) ≤ 8 := by omega
    clear hs hk
    go_enter Try.func140, Try.ntmps140
    go_wp2_with fail
    refine hc.mono ?_
    rintro e w' ⟨t, rfl, h1, h2, h3, h4⟩
    have H3 := Lib.hid h3
    clear h3
    go_wp2_with fail
    go_ret2
    exact ⟨[t], rfl, by show [t.2] = _; rw [h1, chunk, if_pos (by simpa using h')], by simpa using ⟨h2, H3.out⟩, h4⟩
  · have h9 : ks.length = 9 := by omega
    obtain ⟨k0, hk0⟩ : ∃ x, ks[0]? = some x := ⟨_, List.getElem?_eq_getElem (by omega)⟩
    obtain ⟨b, o, ha, hbo, hlc, hcm, -⟩ := hs.ptr_at hk0
    have hseq : s = ⟨some ⟨b, o, none⟩, s.c⟩ := by cases s; simp_all
    have hcL : ∀ W, Ext w W → Calls Try.prog 92 #[.slice (some ⟨b, o, none⟩) 4 s.c] W (InnerPost1 F h (ks.take 4) W) := fun W hW => by
      have := tinner_any (w := W) (F := F) (n := 4) (s := s) (ks := ks.take 4) (by rw [ptrs_take, List.length_take, Nat.min_eq_left (by omega)]; exact (hs.take (m := 4) (by omega)).ext hW) (by rw [List.length_take]; omega) ((hk.take 4).ext hW) (by rw [List.length_take]; omega) (by rw [List.length_take]; omega)
      rw [hseq] at this
      exact this
    have hcR : ∀ W, Ext w W → Calls Try.prog 92 #[.slice (some ⟨b, o + 4, none⟩) 5 (s.c - 4)] W (InnerPost1 F h (ks.drop 4) W) := fun W hW => by
      have hs2 := hs
      rw [hseq] at hs2
      exact tinner_any (w := W) (F := F) (n := 5) (s := ⟨some ⟨b, o + 4, none⟩, s.c - 4⟩) (ks := ks.drop 4) (by rw [show ptrs h (ks.drop 4) = (ptrs h ks).drop (4 * 1) from by simp [ptrs, List.map_drop], List.length_drop]; exact (hs2.drop (m := 4) (by omega)).ext hW) (by rw [List.length_drop]; omega) ((hk.drop 4).ext hW) (by rw [List.length_drop]; omega) (by rw [List.length_drop]; omega)
    have HL := Lib.hid hcL
    have HR := Lib.hid hcR
    have HF := Lib.hid hk.lt
    clear hcL hcR hs hk hseq
    rw [ha, h9]
    rw [h9] at hlc
    have hl4 : 4 ≤ s.c := by omega
    unfold maxLen at hcm
    go_enter Try.func140, Try.ntmps140
    go_wp2_with fail
    go_region_with (first
      | (go_at_call_of 92 (Value.slice (some ⟨b, o, none⟩) 4 s.c); refine (HL.out _ ?_).mono ?_; exact (Ext.refl w).drew; rintro e w1 ⟨t, rfl, h1, h2, h3, h4⟩; have H3 := Lib.hid h3; clear h3)
      | (go_at_call 92; refine (HR.out _ ?_).mono ?_; exact (Ext.refl w).drew.trans h4; rintro e w2 ⟨u, rfl, k1, k2, k3, k4⟩; have K3 := Lib.hid k3; clear k3))
    all_goals go_wp2_with fail
    all_goals go_ret2
    have hX := (Ext.refl w).drew.trans h4
    refine ⟨[t, u], rfl, ?_, ?_, hX.trans k4⟩
    · show [t.2, u.2] = _
      rw [h1, k1, chunk, if_neg (by omega)]
    · intro x hx
      rcases List.mem_cons.1 hx with rfl | hx
      · exact InnerPost1.grow HF.out (Ext.refl w).drew h4 k4 h2 H3.out
      · rcases List.mem_cons.1 hx with rfl | hx
        · exact InnerPost1.grow HF.out hX k4 (Ext.refl w2) k2 K3.out
        · simp at hx
end Go.Proofs.Ytpapoalgocmlaaa
