/- What the theorem needs of the texts CmpA, LogP, Det, VSame, OvCom, OvComW, PutV, MarkI, OvBack, OvBackW, TSame, MarkC, Same12, Known12, TrodB: no condition of its own. -/
import Derived.Laws.IdiomStrings
import Derived.WalkArith
import Derived.OrdersIn
import Derived.Test.YtechahocffcbpaaGreatDoorRows
import Derived.Test.YtechahocffcbpaaGreatDoorPua
import Derived.Test.YtechahocffcbpaaGreatDoorPub
import Derived.Test.YtechahocffcbpaaGreatDoorPuc
import Derived.Test.YtechahocffcbpaaGreatDoorPud
import Derived.Test.YtechahocffcbpaaGreatDoorPue
import Derived.Test.YtechahocffcbpaaGreatDoorPug
import Derived.Test.YtechahocffcbpaaGreatDoorPuf
set_option maxRecDepth 100000
set_option maxHeartbeats 4000000
namespace Go.Proofs.YtechahocffcbpaaGreatDoor
open Go.RowKit
set_option linter.unusedVariables false
set_option linter.unusedSimpArgs false
def boolN (b : Bool) : Int := if b then 1 else 0
theorem boolN_cmp (a b : Bool) : numI (boolN a) (boolN b) = boolI a b := by cases a <;> cases b <;> rfl
structure BxS (w : World) (b b' : Bool) (W : World) : Prop where
  ext : Ext w W
  b0 : ∃ v0 v2 v3 v4 v5, Blk W w.heap.size 34 #[v0, .bool b, v2, v3, v4, v5]
  b1 : ∃ v0 v2 v3 v4 v5, Blk W (w.heap.size + 1) 34 #[v0, .bool b', v2, v3, v4, v5]
theorem BxS.drew {w W : World} {b b' : Bool} (h : BxS w b b' W) : BxS w b b' W.drew := by
  obtain ⟨h1, ⟨a0, a2, a3, a4, a5, ha⟩, ⟨c0, c2, c3, c4, c5, hc⟩⟩ := h
  exact ⟨h1.drew, ⟨_, _, _, _, _, ha.ext ((Ext.refl W).drew)⟩, ⟨_, _, _, _, _, hc.ext ((Ext.refl W).drew)⟩⟩
theorem BxS.at0 {w W : World} {b b' : Bool} (h : BxS w b b' W) : ∃ u, W.cell? ⟨w.heap.size, 2, none⟩ = some u ∧ W.frozen? ⟨w.heap.size, 2, none⟩ = false ∧ w.heap.size < W.heap.size := by
  obtain ⟨h1, ⟨a0, a2, a3, a4, a5, ha⟩, -⟩ := h
  exact ⟨_, ha.cell 2, ha.frozen 2, ha.lt⟩
theorem BxS.at1 {w W : World} {b b' : Bool} (h : BxS w b b' W) : ∃ u, W.cell? ⟨w.heap.size + 1, 2, none⟩ = some u ∧ W.frozen? ⟨w.heap.size + 1, 2, none⟩ = false ∧ w.heap.size + 1 < W.heap.size := by
  obtain ⟨h1, -, ⟨a0, a2, a3, a4, a5, ha⟩⟩ := h
  exact ⟨_, ha.cell 2, ha.frozen 2, ha.lt⟩
theorem BxS.set0 {w W : World} {b b' : Bool} (h : BxS w b b' W) (v : Value) : BxS w b b' (W.setCell ⟨w.heap.size, 2, none⟩ v) := by
  obtain ⟨h1, ⟨a0, a2, a3, a4, a5, ha⟩, ⟨c0, c2, c3, c4, c5, hc⟩⟩ := h
  exact ⟨h1.setCell (p := ⟨w.heap.size, 2, none⟩) (Nat.le_refl _) v, ⟨_, _, _, _, _, ha.set_ 2 v⟩, ⟨_, _, _, _, _, ((St.refl (fun b => b = w.heap.size) W).set (p := ⟨w.heap.size, 2, none⟩) (.inr rfl) v).blk hc (by omega)⟩⟩
theorem BxS.set1 {w W : World} {b b' : Bool} (h : BxS w b b' W) (v : Value) : BxS w b b' (W.setCell ⟨w.heap.size + 1, 2, none⟩ v) := by
  obtain ⟨h1, ⟨a0, a2, a3, a4, a5, ha⟩, ⟨c0, c2, c3, c4, c5, hc⟩⟩ := h
  exact ⟨h1.setCell (p := ⟨w.heap.size + 1, 2, none⟩) (by simp) v, ⟨_, _, _, _, _, ((St.refl (fun b => b = w.heap.size + 1) W).set (p := ⟨w.heap.size + 1, 2, none⟩) (.inr rfl) v).blk ha (by omega)⟩, ⟨_, _, _, _, _, hc.set_ 2 v⟩⟩
theorem BxS.ends {w W : World} {b b' : Bool} (h : BxS w b b' W) (v v' : Value) : ((W.setCell ⟨w.heap.size, 2, none⟩ v).setCell ⟨w.heap.size + 1, 2, none⟩ v').cell? ⟨w.heap.size, 2, none⟩ = some v ∧ ((W.setCell ⟨w.heap.size, 2, none⟩ v).setCell ⟨w.heap.size + 1, 2, none⟩ v').cell? ⟨w.heap.size + 1, 2, none⟩ = some v' := by
  obtain ⟨h1, ⟨a0, a2, a3, a4, a5, ha⟩, -⟩ := h.set0 v
  obtain ⟨-, ⟨b0, b2, b3, b4, b5, hb⟩, ⟨c0, c2, c3, c4, c5, hc⟩⟩ := h
  have hc' := ((St.refl (fun b => b = w.heap.size) W).set (p := ⟨w.heap.size, 2, none⟩) (.inr rfl) v).blk hc (by omega)
  have hb' := hb.set_ 2 v
  have hb2 := ((St.refl (fun b => b = w.heap.size + 1) (W.setCell ⟨w.heap.size, 2, none⟩ v)).set (p := ⟨w.heap.size + 1, 2, none⟩) (.inr rfl) v').blk hb' (by omega)
  exact ⟨hb2.cell 2, (hc'.set_ 2 v').cell 2⟩
theorem rankN_any (w : World) (b : Bool) : Calls Tryz.prog 97 #[.bool b] w fun e w' => e = .returned (.int .i64 (boolN b)) ∧ w = w' := rank_any w b
theorem cmp_any (m : Nat) : CmpIH m := by
  induction m with
  | zero => intro d y hd; have := Val.sz_pos d; omega
  | succ m ih =>
  intro x y hd w sl so sl' so' h h'
  have hv := fun (W : World) (hW : Ext w W) => inOrderV ih hd ((h.agree (hW.agree fun _ h => h)).mono fun i hi => Nat.lt_of_lt_of_le hi hW.size) ((h'.agree (hW.agree fun _ h => h)).mono fun i hi => Nat.lt_of_lt_of_le hi hW.size)
  have hm := fun (W : World) (hW : Ext w W) => inOrderM ih hd ((h.agree (hW.agree fun _ h => h)).mono fun i hi => Nat.lt_of_lt_of_le hi hW.size) ((h'.agree (hW.agree fun _ h => h)).mono fun i hi => Nat.lt_of_lt_of_le hi hW.size)
  clear ih h h' hd
  obtain ⟨k, b, i, t, l, ok, ov⟩ := x
  obtain ⟨k', b', i', t', l', ok', ov'⟩ := y
  have HV := Lib.hid (show ∀ (W : World) (hW : Ext w W), Calls Tryz.prog 100 #[.slice sl.a l.length sl.c, .slice sl'.a l'.length sl'.c, .func (.func 65) #[] #[]] W (CmpPost (cmpL l l') W) from hv)
  have HM := Lib.hid (show ∀ (W : World) (hW : Ext w W), Calls Tryz.prog 101 #[.slice so.a ok.length so.c, .slice so'.a ok'.length so'.c, .func (.func 102) #[] #[]] W (CmpPost (cmpM ov ok ok' ov') W) from hm)
  show Calls _ _ #[.agg #[.int .i64 k, .bool b, .int .i64 i, .string t, .slice sl.a l.length sl.c, .slice so.a ok.length so.c], .agg #[.int .i64 k', .bool b', .int .i64 i', .string t', .slice sl'.a l'.length sl'.c, .slice so'.a ok'.length so'.c]] _ _
  have hcv : cmpV (.mk k b i t l ok ov) (.mk k' b' i' t' l' ok' ov') = if k ≠ k' then numI k k' else if k = 2 then boolI b b' else if k = 3 then numI i i' else if k = 4 then textI t t' else if k = 5 then cmpL l l' else if k = 6 then cmpM ov ok ok' ov' else 0 := by
    simp only [cmpV, Val.kind, Val.b, Val.i, Val.t, Val.l, Val.ok, Val.ov]
    rfl
  rw [hcv]
  clear hcv hv hm
  have hXX : Ext w ((w.alloc (.cells #[.int .i64 k, .bool b, .int .i64 i, .string t, .slice sl.a l.length sl.c, .slice so.a ok.length so.c] 34)).alloc (.cells #[.int .i64 k', .bool b', .int .i64 i', .string t', .slice sl'.a l'.length sl'.c, .slice so'.a ok'.length so'.c] 34)) := ((Ext.refl w).alloc _ _).alloc _ _
  have HXX := Lib.hid hXX
  have HK := Lib.hid (fun W => compareKind_any W k k')
  have HI := Lib.hid (fun W a b => compareint64_any W a b)
  have HT := Lib.hid (fun W => stringsCompare_any W t t')
  have HR := Lib.hid (fun W (b : Bool) => rankN_any W b)
  clear hXX
  by_cases hkk : k = k'
  · subst hkk
    have hkb : (k != k) = false := by simp
    rw [if_neg (by simp)]
    by_cases h2 : k = 2
    · subst h2
      rw [if_pos rfl, ← boolN_cmp]
      clear HXX
      go_enter Tryz.func65, Tryz.ntmps65
      go_wp2_with fail
      generalize hW0 : World.alloc (World.alloc _ _) _ = W0
      obtain ⟨hx0, hz0, hb0, hb1⟩ := two_blocks w _ _ _ _ W0 hW0
      clear hW0
      have hB0 : BxS w b b' W0 := ⟨hx0, ⟨_, _, _, _, _, hb0⟩, ⟨_, _, _, _, _, hb1⟩⟩
      have HSS := Lib.hid (show ∀ W, BxS w b b' W → W.cell? ⟨w.heap.size, 1, none⟩ = some (.bool b) ∧ W.cell? ⟨w.heap.size + 1, 1, none⟩ = some (.bool b') from fun W hW => by
        obtain ⟨-, ⟨a0, a2, a3, a4, a5, ha⟩, ⟨c0, c2, c3, c4, c5, hc⟩⟩ := hW
        exact ⟨ha.cell 1, hc.cell 1⟩)
      have HB0 := Lib.hid hB0
      clear hx0 hb0 hb1 hB0 hz0
      refine wp_region_held_drew (S := (fun w' => BxS w b b' w')) (by kernel_rfl) ((HB0.out.drew)) (fun hHeld => ?_)
      refine heldT 0 (some 27) HSS hHeld ?_
      refine heldT 1 (some 28) HSS hHeld ?_
      refine heldT 3 (some 30) HSS hHeld ?_
      refine heldT 4 (some 31) HSS hHeld ?_
      refine held_call (i := 2) (by kernel_rfl) rfl (by rfl) (fun K hK => ?_)
      go_simp
      (refine (HR.out _ b).mono ?_; rintro e w1 ⟨rfl, rfl⟩)
      refine hK.out _ _ (hHeld) (fun hHeld => ?_)
      clear hK K
      try simp only [Act.put, List.setIfInBounds_toArray, List.set_cons_zero, List.set_cons_succ]
      refine heldT 6 (some 33) HSS hHeld ?_
      refine held_call (i := 5) (by kernel_rfl) rfl (by rfl) (fun K hK => ?_)
      go_simp
      (refine (HR.out _ b').mono ?_; rintro e w1 ⟨rfl, rfl⟩)
      refine hK.out _ _ (hHeld) (fun hHeld => ?_)
      clear hK K
      try simp only [Act.put, List.setIfInBounds_toArray, List.set_cons_zero, List.set_cons_succ]
      obtain ⟨u7, c7, f7, l7⟩ := hHeld.at0
      refine held_call (i := 7) (by kernel_rfl) rfl (by rfl) (fun K hK => ?_)
      go_simp
      skip
      refine hK.out _ _ (hHeld.set0 _) (fun hHeld => ?_)
      clear hK K
      try simp only [Act.put, List.setIfInBounds_toArray, List.set_cons_zero, List.set_cons_succ]
      refine heldT 8 (some 34) HSS hHeld ?_
      obtain ⟨u9, c9, f9, l9⟩ := hHeld.at1
      refine held_call (i := 9) (by kernel_rfl) rfl (by rfl) (fun K hK => ?_)
      go_simp
      skip
      refine hK.out _ _ (hHeld.set1 _) (fun hHeld => ?_)
      clear hK K
      try simp only [Act.put, List.setIfInBounds_toArray, List.set_cons_zero, List.set_cons_succ]
      refine wpAnyH_done (by kernel_rfl) ?_ _
      have HH := Lib.hid hHeld
      obtain ⟨q0, q1⟩ := HB0.out.ends (.int .i64 (boolN b)) (.int .i64 (boolN b'))
      clear hHeld
      generalize (W0.setCell ⟨w.heap.size, 2, none⟩ (.int .i64 (boolN b))).setCell ⟨w.heap.size + 1, 2, none⟩ (.int .i64 (boolN b')) = W9 at *
      go_wp2_with fail
      refine (HI.out _ _ _).mono ?_
      rintro e w2 ⟨rfl, rfl⟩
      go_wp2_with fail
      go_ret
      exact ⟨rfl, HH.out.ext⟩
    have h2b : (k == 2) = false := beq_eq_false_iff_ne.2 h2
    by_cases h3 : k = 3
    · subst h3
      rw [if_neg h2, if_pos rfl]
      clear h2
      go_enter Tryz.func65, Tryz.ntmps65
      go_wp2_with fail
      refine (HI.out _ _ _).mono ?_
      rintro e w2 ⟨rfl, rfl⟩
      go_wp2_with fail
      go_ret
      exact ⟨rfl, HXX.out⟩
    have h3b : (k == 3) = false := beq_eq_false_iff_ne.2 h3
    by_cases h4 : k = 4
    · subst h4
      rw [if_neg h2, if_neg h3, if_pos rfl]
      clear h2 h3
      go_enter Tryz.func65, Tryz.ntmps65
      go_wp2_with fail
      refine (HT.out _).mono ?_
      rintro e w2 ⟨rfl, rfl⟩
      go_wp2_with fail
      go_ret
      exact ⟨rfl, HXX.out⟩
    have h4b : (k == 4) = false := beq_eq_false_iff_ne.2 h4
    rw [if_neg h2, if_neg h3, if_neg h4]
    by_cases h5 : k = 5
    · subst h5
      rw [if_pos rfl]
      clear h2 h3 h4
      go_enter Tryz.func65, Tryz.ntmps65
      go_wp2_with fail
      refine (HV.out _ HXX.out).mono ?_
      rintro e w2 ⟨rfl, hx⟩
      have HX := Lib.hid hx
      clear hx
      go_wp2_with fail
      go_ret
      exact ⟨rfl, HXX.out.trans HX.out⟩
    have h5b : (k == 5) = false := beq_eq_false_iff_ne.2 h5
    rw [if_neg h5]
    by_cases h6 : k = 6
    · subst h6
      rw [if_pos rfl]
      clear h2 h3 h4 h5
      go_enter Tryz.func65, Tryz.ntmps65
      go_wp2_with fail
      refine (HM.out _ HXX.out).mono ?_
      rintro e w2 ⟨rfl, hx⟩
      have HX := Lib.hid hx
      clear hx
      go_wp2_with fail
      go_ret
      exact ⟨rfl, HXX.out.trans HX.out⟩
    have h6b : (k == 6) = false := beq_eq_false_iff_ne.2 h6
    rw [if_neg h6]
    clear h2 h3 h4 h5 h6
    go_enter Tryz.func65, Tryz.ntmps65
    go_wp2_with fail
    go_ret
    exact ⟨rfl, HXX.out⟩
  · have hkb : (k != k') = true := bne_iff_ne.2 hkk
    rw [if_pos hkk]
    clear hkk
    go_enter Tryz.func65, Tryz.ntmps65
    go_wp2_with fail
    refine (HK.out _).mono ?_
    rintro e w2 ⟨rfl, rfl⟩
    go_wp2_with fail
    go_ret
    exact ⟨rfl, HXX.out⟩
theorem mod_apart {a b k : Nat} (h : a < b) (hk : b < a + k) : a % k ≠ b % k := by
  intro e
  have h1 := Nat.sub_mod_eq_zero_of_mod_eq e.symm
  rw [Nat.mod_eq_of_lt (by omega)] at h1
  omega
def Holds (keep f : Nat) (xs ring : List Value) : Prop := ∀ j, j < xs.length → xs.length ≤ j + keep → ring[(f + j) % keep]? = xs[j]?
theorem Holds.put {keep f : Nat} {xs ring : List Value} (h : Holds keep f xs ring) (hl : ring.length = keep) (hp : 1 ≤ keep) (x : Value) : Holds keep f (xs ++ [x]) (ring.set ((f + xs.length) % keep) x) := by
  intro j hj hk
  rw [List.length_append] at hj hk
  simp only [List.length_cons, List.length_nil] at hj hk
  by_cases e : j = xs.length
  · subst e
    rw [List.getElem?_set_self (by rw [hl]; exact Nat.mod_lt _ hp)]
    simp
  · rw [List.getElem?_set_ne (fun e' => mod_apart (a := f + j) (b := f + xs.length) (k := keep) (by omega) (by omega) e'.symm), h j (by omega) (by omega), List.getElem?_append_left (by omega)]
def pk (i : Int) : Nat := (IntKind.u64.wrap i % 5).toNat
theorem VCells.det {w : World} {b o : Nat} {d d' : Val} {sl so sl' so' : Sl} (h : VCells w b o d sl so) (h' : VCells w b o d' sl' so') :
    d.kind = d'.kind ∧ d.b = d'.b ∧ d.i = d'.i ∧ d.t = d'.t ∧ d.l.length = d'.l.length ∧ d.ok.length = d'.ok.length ∧ sl = sl' ∧ so = so' := by
  have e0 := h.c0.symm.trans h'.c0
  have e1 := h.c1.symm.trans h'.c1
  have e2 := h.c2.symm.trans h'.c2
  have e3 := h.c3.symm.trans h'.c3
  have e4 := h.c4.symm.trans h'.c4
  have e5 := h.c5.symm.trans h'.c5
  obtain ⟨a, c⟩ := sl
  obtain ⟨a', c'⟩ := sl'
  obtain ⟨f, g⟩ := so
  obtain ⟨f', g'⟩ := so'
  simp only [Option.some.injEq, Value.int.injEq, Value.bool.injEq, Value.string.injEq, Value.slice.injEq, true_and] at e0 e1 e2 e3 e4 e5
  obtain ⟨rfl, e4, rfl⟩ := e4
  obtain ⟨rfl, e5, rfl⟩ := e5
  exact ⟨e0, e1, e2, e3, e4, e5, rfl, rfl⟩
theorem SlAt.same {F F' : Nat → Prop} {s : Sl} {n b o b' o' : Nat} (h : SlAt F s n b o) (h' : SlAt F' s n b' o') (hn : 0 < n) : b = b' ∧ o = o' := by
  have e := (h.eq hn).1.symm.trans (h'.eq hn).1
  simpa using e
theorem Val.ext_of {d d' : Val} (h1 : d.kind = d'.kind) (h2 : d.b = d'.b) (h3 : d.i = d'.i) (h4 : d.t = d'.t) (h5 : d.l = d'.l) (h6 : d.ok = d'.ok) (h7 : d.ov = d'.ov) : d = d' := by
  cases d; cases d'
  simp only [Val.kind, Val.b, Val.i, Val.t, Val.l, Val.ok, Val.ov] at *
  subst_vars; rfl
theorem RV.det {w : World} {F F' : Nat → Prop} (m : Nat) : ∀ {d d' : Val} {sl so : Sl}, SizeOf.sizeOf d ≤ m → RV w F d sl so → RV w F' d' sl so → d.l.length = d'.l.length → d.ok.length = d'.ok.length → d.l = d'.l ∧ d.ok = d'.ok ∧ d.ov = d'.ov := by
  induction m with
  | zero => intro d _ _ _ hm; have := Val.sz_pos d; omega
  | succ m ih =>
    intro d d' sl so hm h h' hll hoo
    cases h with
    | @mk kind vb vi vt l ok ov _ _ bl fl bo fo cl co hl ho hov el rl ek eo ro =>
    cases h' with
    | @mk kind' vb' vi' vt' l' ok' ov' _ _ bl' fl' bo' fo' cl' co' hl' ho' hov' el' rl' ek' eo' ro' =>
    have one : ∀ {b o : Nat} {x x' : Val} {s s' t t' : Sl}, SizeOf.sizeOf x ≤ m → VCells w b o x s t → VCells w b o x' s' t' → RV w F x s t → RV w F' x' s' t' → x = x' := fun hs c c' r r' => by
      obtain ⟨h1, h2, h3, h4, h5, h6, rfl, rfl⟩ := c.det c'
      obtain ⟨k1, k2, k3⟩ := ih hs r r' h5 h6
      exact Val.ext_of h1 h2 h3 h4 k1 k2 k3
    simp only [Val.l, Val.ok, Val.ov] at hll hoo ⊢
    refine ⟨List.ext_getElem? fun j => ?_, List.ext_getElem? fun j => ?_, List.ext_getElem? fun j => ?_⟩
    · by_cases hj : j < l.length
      · obtain ⟨x, hx⟩ : ∃ x, l[j]? = some x := ⟨_, List.getElem?_eq_getElem hj⟩
        obtain ⟨x', hx'⟩ : ∃ x', l'[j]? = some x' := ⟨_, List.getElem?_eq_getElem (by omega)⟩
        obtain ⟨rfl, rfl⟩ := hl.same (hll ▸ hl') (by omega)
        rw [hx, hx', one (by have := Val.sz_l (k := kind) (b := vb) (i := vi) (t := vt) (ok := ok) (ov := ov) hx; omega) (el j x hx) (el' j x' hx') (rl j x hx) (rl' j x' hx')]
      · rw [List.getElem?_eq_none (by omega), List.getElem?_eq_none (by omega)]
    · by_cases hj : j < ok.length
      · obtain ⟨x, hx⟩ : ∃ x, ok[j]? = some x := ⟨_, List.getElem?_eq_getElem hj⟩
        obtain ⟨x', hx'⟩ : ∃ x', ok'[j]? = some x' := ⟨_, List.getElem?_eq_getElem (by omega)⟩
        obtain ⟨rfl, rfl⟩ := ho.same (hoo ▸ ho') (by omega)
        have e := (ek j x hx).1.symm.trans (ek' j x' hx').1
        simp only [Option.some.injEq, Value.string.injEq] at e
        rw [hx, hx', e]
      · rw [List.getElem?_eq_none (by omega), List.getElem?_eq_none (by omega)]
    · by_cases hj : j < ov.length
      · obtain ⟨x, hx⟩ : ∃ x, ov[j]? = some x := ⟨_, List.getElem?_eq_getElem hj⟩
        obtain ⟨x', hx'⟩ : ∃ x', ov'[j]? = some x' := ⟨_, List.getElem?_eq_getElem (by omega)⟩
        obtain ⟨rfl, rfl⟩ := ho.same (hoo ▸ ho') (by omega)
        rw [hx, hx', one (by have := Val.sz_o (k := kind) (b := vb) (i := vi) (t := vt) (l := l) (ok := ok) hx; omega) (eo j x hx) (eo' j x' hx') (ro j x hx) (ro' j x' hx')]
      · rw [List.getElem?_eq_none (by omega), List.getElem?_eq_none (by omega)]
theorem ES.det {w : World} {F F' : Nat → Prop} {s : Sl} {xs ys : List LE} (h : ES w F s xs) (h' : ES w F' s ys) (hl : xs.length = ys.length) : xs.map LE.ent = ys.map LE.ent := by
  refine List.ext_getElem? fun j => ?_
  rw [List.getElem?_map, List.getElem?_map]
  by_cases hj : j < xs.length
  · obtain ⟨x, hx⟩ : ∃ x, xs[j]? = some x := ⟨_, List.getElem?_eq_getElem hj⟩
    obtain ⟨y, hy⟩ : ∃ y, ys[j]? = some y := ⟨_, List.getElem?_eq_getElem (by omega)⟩
    obtain ⟨b, o, ha, -, -, -, k1, c1, r1, -⟩ := h.at hx
    obtain ⟨b', o', ha', -, -, -, k2, c2, r2, -⟩ := h'.at hy
    obtain ⟨rfl, rfl⟩ : b = b' ∧ o = o' := by have := ha.symm.trans ha'; simpa using this
    have e := k1.symm.trans k2
    simp only [Option.some.injEq, Value.string.injEq] at e
    obtain ⟨xk, xv, xsl, xso⟩ := x
    obtain ⟨yk, yv, ysl, yso⟩ := y
    obtain ⟨h1, h2, h3, h4, h5, h6, e7, e8⟩ := c1.det c2
    dsimp only at *
    subst e7 e8
    obtain ⟨q1, q2, q3⟩ := RV.det _ (Nat.le_refl _) r1 r2 h5 h6
    rw [hx, hy]
    simp only [Option.map_some, LE.ent, e, Val.ext_of h1 h2 h3 h4 q1 q2 q3]
  · rw [List.getElem?_eq_none (by omega), List.getElem?_eq_none (by omega)]
theorem IsN.heights {w : World} {F F' : Nat → Prop} {h h' : Nat} {t : PT h} {t' : PT h'} (a : IsN w F h t) (b : IsN w F' h' t') (e : addr h t = addr h' t') : h = h' := by
  obtain ⟨-, _, _, _, _, -, h1⟩ := a.cells
  obtain ⟨-, _, _, _, _, -, h2⟩ := b.cells
  rw [e] at h1
  have := h1.c7.2.2.1.symm.trans h2.c7.2.2.1
  simp only [Option.some.injEq, Value.int.injEq, true_and] at this
  omega
theorem IsN.det {w : World} {F F' : Nat → Prop} : ∀ {h : Nat} {t t' : PT h}, IsN w F h t → IsN w F' h t' → addr h t = addr h t' → t = t'
  | 0, (a, es), (a', es'), ⟨_, s, xs, h2, h3, h4⟩, ⟨_, s', xs', h2', h3', h4'⟩, e => by
    have e : a = a' := e
    subst e
    have c := (h2.c7.1).symm.trans h2'.c7.1
    simp only [Option.some.injEq, Value.slice.injEq] at c
    obtain ⟨sa, sc⟩ := s
    obtain ⟨sa', sc'⟩ := s'
    dsimp only at c
    obtain ⟨rfl, hl, rfl⟩ := c
    have := h3.det h3' hl
    have h4 : xs.map LE.ent = es := h4
    have h4' : xs'.map LE.ent = es' := h4'
    rw [← h4, ← h4', this]
  | h + 1, (a, ks), (a', ks'), ⟨_, s, h2, h3, h4⟩, ⟨_, s', h2', h3', h4'⟩, e => by
    have e : a = a' := e
    subst e
    have c := (h2.c7.2.1).symm.trans h2'.c7.2.1
    simp only [Option.some.injEq, Value.slice.injEq] at c
    obtain ⟨sa, sc⟩ := s
    obtain ⟨sa', sc'⟩ := s'
    dsimp only at c
    obtain ⟨rfl, hl, rfl⟩ := c
    have h4 : ∀ k ∈ ks, IsN w F h k := h4
    have h4' : ∀ k ∈ ks', IsN w F' h k := h4'
    have hks : ks = ks' := by
      refine List.ext_getElem? fun j => ?_
      by_cases hj : j < ks.length
      · obtain ⟨x, hx⟩ : ∃ x, ks[j]? = some x := ⟨_, List.getElem?_eq_getElem hj⟩
        obtain ⟨y, hy⟩ : ∃ y, ks'[j]? = some y := ⟨_, List.getElem?_eq_getElem (by omega)⟩
        obtain ⟨b, o, ha, -, -, -, k1⟩ := Rd.ptr_at h3 hx
        obtain ⟨b', o', ha', -, -, -, k2⟩ := Rd.ptr_at h3' hy
        obtain ⟨rfl, rfl⟩ : b = b' ∧ o = o' := by have := ha.symm.trans ha'; simpa using this
        have e := k1.symm.trans k2
        simp only [Option.some.injEq, Value.pointer.injEq, Addr.mk.injEq, and_true] at e
        rw [hx, hy, IsN.det (h4 x (List.mem_of_getElem? hx)) (h4' y (List.mem_of_getElem? hy)) e]
      · rw [List.getElem?_eq_none (by omega), List.getElem?_eq_none (by omega)]
    rw [hks]
theorem IsT.det {w : World} {F F' : Nat → Prop} {T T' : RT} (h : IsT w F T) (h' : IsT w F' T') (e : rootV T = rootV T') : T = T' := by
  match T, T', h, h', e with
  | none, none, _, _, _ => rfl
  | none, some ⟨_, _⟩, _, _, e => simp [rootV] at e
  | some ⟨_, _⟩, none, _, _, e => simp [rootV] at e
  | some ⟨n, t⟩, some ⟨n', t'⟩, h, h', e =>
    have e : addr n t = addr n' t' := by simpa [rootV] using e
    have h : IsN w F n t := h
    have h' : IsN w F' n' t' := h'
    have hh := h.heights h' e
    subst hh
    rw [h.det h' e]
theorem valueSame_any {w : World} {x y : Val} {sl so sl' so' : Sl} (h : RV w (Lt w.heap.size) x sl so) (h' : RV w (Lt w.heap.size) y sl' so') :
    Calls Tryz.prog 39 #[aggV x sl so, aggV y sl' so'] w fun e w' => e = .returned (.bool (decide (cmpV x y = 0))) ∧ Ext w w' := by
  have hc : ∀ W, Ext w W → Calls Tryz.prog 65 #[aggV x sl so, aggV y sl' so'] W (CmpPost (cmpV x y) W) := fun W hW =>
    cmp_any _ x y (Nat.le_refl _) W _ _ _ _ ((h.agree (hW.agree fun _ h => h)).mono fun i hi => Nat.lt_of_lt_of_le hi hW.size) ((h'.agree (hW.agree fun _ h => h)).mono fun i hi => Nat.lt_of_lt_of_le hi hW.size)
  have HC := Lib.hid hc
  have hb : (cmpV x y == 0) = decide (cmpV x y = 0) := by by_cases h : cmpV x y = 0 <;> simp [h]
  have HB := Lib.hid hb
  clear hc h h' hb
  obtain ⟨k, b, i, t, l, ok, ov⟩ := x
  obtain ⟨k', b', i', t', l', ok', ov'⟩ := y
  go_enter Tryz.func39, Tryz.ntmps39
  go_wp2_with fail
  generalize hW0 : World.alloc (World.alloc _ _) _ = W0
  obtain ⟨hx0, hz0, hb0, hb1⟩ := two_blocks w _ _ _ _ W0 hW0
  clear hW0
  refine (HC.out _ hx0).mono ?_
  rintro e w1 ⟨rfl, hx⟩
  go_wp2_with fail
  go_ret
  exact ⟨rfl, hx0.trans hx⟩
theorem same1_any {w : World} {x y : LE} (h : RV w (Lt w.heap.size) x.v x.sl x.so) (h' : RV w (Lt w.heap.size) y.v y.sl y.so) :
    Calls Tryz.prog 57 #[aggE x.k x.v x.sl x.so, aggE y.k y.v y.sl y.so] w fun e w' => e = .returned (.bool (decide (x.k = y.k) && decide (cmpV x.v y.v = 0))) ∧ Ext w w' := by
  have hc : ∀ W, Ext w W → Calls Tryz.prog 39 #[aggV x.v x.sl x.so, aggV y.v y.sl y.so] W fun e w' => e = .returned (.bool (decide (cmpV x.v y.v = 0))) ∧ Ext W w' := fun W hW =>
    valueSame_any ((h.agree (hW.agree fun _ h => h)).mono fun i hi => Nat.lt_of_lt_of_le hi hW.size) ((h'.agree (hW.agree fun _ h => h)).mono fun i hi => Nat.lt_of_lt_of_le hi hW.size)
  have HC := Lib.hid hc
  clear hc h h'
  obtain ⟨k, v, sl, so⟩ := x
  obtain ⟨k', v', sl', so'⟩ := y
  dsimp only at HC ⊢
  by_cases hk : k = k'
  · subst hk
    have hkb : (k.toList == k.toList) = true := by simp
    rw [decide_eq_true (rfl : k = k), Bool.true_and]
    go_enter Tryz.func57, Tryz.ntmps57
    go_wp2_with fail
    generalize hW0 : World.alloc (World.alloc _ _) _ = W0
    obtain ⟨hx0, hz0, hb0, hb1⟩ := two_blocks w _ _ _ _ W0 hW0
    clear hW0
    refine (HC.out _ hx0).mono ?_
    rintro e w1 ⟨rfl, hx⟩
    go_wp2_with fail
    go_ret
    exact ⟨rfl, hx0.trans hx⟩
  · have hkb : (k.toList == k'.toList) = false := by rw [beq_toList]; exact decide_eq_false hk
    rw [decide_eq_false hk, Bool.false_and]
    clear hk
    go_enter Tryz.func57, Tryz.ntmps57
    go_wp2_with fail
    generalize hW0 : World.alloc (World.alloc _ _) _ = W0
    obtain ⟨hx0, hz0, hb0, hb1⟩ := two_blocks w _ _ _ _ W0 hW0
    go_ret
    exact ⟨rfl, hx0⟩
theorem equalFunc_any {w : World} {s s' : Sl} {xs ys : List LE} (hs : ES w (Lt w.heap.size) s xs) (hs' : ES w (Lt w.heap.size) s' ys) :
    Calls Tryz.prog 56 #[.slice s.a xs.length s.c, .slice s'.a ys.length s'.c, .func (.func 57) #[] #[]] w fun e w' => e = .returned (.bool (sameE (xs.map LE.ent) (ys.map LE.ent))) ∧ Ext w w' := by
  have hf := hs.few
  have hnl : xs.length ≤ 140737488355328 := by omega
  by_cases hlen : xs.length = ys.length
  · have HS := Lib.hid hs
    have HS' := Lib.hid hs'
    have HLEN := Lib.hid hlen
    rw [← hlen]
    clear hs hs' hlen hf
    go_enter Tryz.func56, Tryz.ntmps56
    go_wp2_with fail
    go_loopw [17] (fun q wr => ∃ j : Nat, q = .int .i64 j ∧ j ≤ xs.length ∧ sameE (xs.map LE.ent) (ys.map LE.ent) = sameE ((xs.map LE.ent).drop j) ((ys.map LE.ent).drop j) ∧ Ext w wr) (fun q _ => xs.length - (intOf q).toNat)
    case atStart => exact ⟨0, rfl, Nat.zero_le _, rfl, Ext.refl w⟩
    case round =>
      obtain ⟨j, rfl, hjl, hp, hx⟩ := hrel
      have HP := Lib.hid hp
      have HX := Lib.hid hx
      by_cases h1 : j < xs.length
      · have g1 : (j : Int) < (xs.length : Int) := by omega
        obtain ⟨x, hxx⟩ : ∃ x, xs[j]? = some x := ⟨_, List.getElem?_eq_getElem h1⟩
        obtain ⟨y, hyy⟩ : ∃ y, ys[j]? = some y := ⟨_, List.getElem?_eq_getElem (by rw [← HLEN.out]; exact h1)⟩
        have HD := Lib.hid (sameE_drop (l := xs.map LE.ent) (m := ys.map LE.ent) (a := x.ent) (b := y.ent) (by rw [List.getElem?_map, hxx]; rfl) (by rw [List.getElem?_map, hyy]; rfl))
        have e1 := HS.out.ext hx
        have e2 := HS'.out.ext hx
        obtain ⟨g, o, hg, lg, hc, hcm, kx, ⟨v0, v1, v2, v3, v4, v5⟩, rx, -⟩ := e1.at hxx
        obtain ⟨g', o', hg', lg', hc', hcm', ky, ⟨v0', v1', v2', v3', v4', v5'⟩, ry, -⟩ := e2.at hyy
        rw [← HLEN.out] at hc'
        obtain ⟨sa, sc⟩ := s
        obtain ⟨sa', sc'⟩ := s'
        dsimp only at hg hg' hc hc' hcm hcm'
        subst hg hg'
        have hic : ∀ W, Ext wr W → Calls Tryz.prog 57 #[aggE x.k x.v x.sl x.so, aggE y.k y.v y.sl y.so] W fun e w' => e = .returned (.bool (decide (x.k = y.k) && decide (cmpV x.v y.v = 0))) ∧ Ext W w' := fun W hW =>
          same1_any ((rx.agree (hW.agree fun _ h => h)).mono fun i hi => Nat.lt_of_lt_of_le hi hW.size) ((ry.agree (hW.agree fun _ h => h)).mono fun i hi => Nat.lt_of_lt_of_le hi hW.size)
        have HIC := Lib.hid hic
        have lg : g < wr.heap.size := lg
        have lg' : g' < wr.heap.size := lg'
        clear hp hx hxx hyy e1 e2 rx ry hic
        go_wp2_with fail
        generalize hW0 : World.alloc (World.alloc _ _) _ = W0
        obtain ⟨hx0, hz0, hb0, hb1⟩ := two_blocks wr _ _ _ _ W0 hW0
        clear hW0
        refine (HIC.out _ hx0).mono ?_
        rintro e w2 ⟨rfl, hx2⟩
        have HX2 := Lib.hid ((HX.out.trans hx0).trans hx2)
        clear hx2 hx0 hb0 hb1 kx ky v0 v1 v2 v3 v4 v5 v0' v1' v2' v3' v4' v5'
        cases hq : (decide (x.k = y.k) && decide (cmpV x.v y.v = 0)) with
        | true =>
          have HQ := Lib.hid hq
          clear hq
          go_wp2_with fail
          go_roundw
          case rel => exact ⟨j + 1, by go_num, h1, by rw [HP.out, HD.out, show (decide (x.ent.1 = y.ent.1) && decide (cmpV x.ent.2 y.ent.2 = 0)) = true from HQ.out, Bool.true_and], HX2.out⟩
          case measure => simp [intOf]; omega
        | false =>
          have HQ := Lib.hid hq
          clear hq
          go_wp2_with fail
          go_ret
          exact ⟨by rw [HP.out, HD.out, show (decide (x.ent.1 = y.ent.1) && decide (cmpV x.ent.2 y.ent.2 = 0)) = false from HQ.out, Bool.false_and]; rfl, HX2.out⟩
      · obtain rfl : j = xs.length := by omega
        clear hp hx
        go_wp2_with fail
        go_ret
        refine ⟨?_, HX.out⟩
        rw [HP.out, List.drop_eq_nil_of_le (by simp), List.drop_eq_nil_of_le (by simp [HLEN.out])]; rfl
  · have hne : ((xs.length : Int) != (ys.length : Int)) = true := bne_iff_ne.2 (by omega)
    have HE := Lib.hid (sameE_ne (l := xs.map LE.ent) (m := ys.map LE.ent) (by simpa using hlen))
    clear hs hs' hlen hf
    go_enter Tryz.func56, Tryz.ntmps56
    go_wp2_with fail
    go_ret
    exact ⟨by rw [HE.out]; rfl, Ext.refl w⟩
theorem IsT.leads {w : World} {F : Nat → Prop} {T : RT} (h : IsT w F T) {p : Option Addr} (hp : rootV T = .pointer p) : Leads w p := by
  intro a ha
  subst ha
  match T, h, hp with
  | none, _, hp => simp [rootV] at hp
  | some ⟨n, t⟩, h, hp =>
    have h : IsN w F n t := h
    obtain ⟨-, _, _, _, _, -, hb⟩ := h.cells
    have e : a = ⟨addr n t, 0, none⟩ := by simpa [rootV, ptr] using hp.symm
    subst e
    exact ⟨_, _, hb⟩
end Go.Proofs.YtechahocffcbpaaGreatDoor
namespace Go.Proofs.YtechahocffcbpaaGreatDoor
open Go.RowKit Go.Maps Go.Shelf
set_option linter.unusedVariables false
set_option linter.unusedSimpArgs false
theorem look_ov1 {W : World} {mb : Option Nat} {C : AL SV} (hm : OvMap W mb C) {k : ByteArray} (hk : k.size ≤ maxLen) :
    (Instr.lookup 26 (.map mb) (.string k) false).run Tryz.prog W = .ok (hadA C k).val W := by
  cases mb with
  | none =>
    have hC : C = [] := hm
    subst hC
    rw [Maps.look_nil false strKey Tryz.underlying26 (zeroSlot W) (keyA k hk)]
    rfl
  | some b =>
    obtain ⟨es, clock, hb, F, hs, hD⟩ := hm
    rcases Maps.fit_look false strKey Tryz.underlying26 (zeroSlot W) hb F (keyA k hk) with ⟨hrun, _, hat⟩ | ⟨e0, y, _, _, hrun, hRv, hat, _⟩
    · rw [hrun]
      have h1 := hat .nil
      rw [← hD, at_mapA] at h1
      unfold hadA
      cases hg : getA C k with
      | none => rfl
      | some s => rw [hg] at h1; cases h1
    · rw [hrun]
      have h1 := hat .nil
      rw [← hD, at_mapA] at h1
      have h2 := hat (.held (.bool true))
      rw [← hD, at_mapA] at h2
      unfold hadA
      cases hg : getA C k with
      | none => rw [hg] at h1 h2; rw [← h1] at h2; cases h2
      | some s =>
        rw [hg] at h1
        obtain ⟨y1, y2⟩ := y
        dsimp only at h1
        rw [← h1] at hRv
        rw [heldR_inv hRv]; rfl
theorem keys_sorted {C : AL SV} (hC : SortedA C) {ss : List (List UInt8)} (hp : ss.Perm (strKeys (mapA SV.val C))) : (ss.mergeSort fun x y => decide (x ≤ y)).map encStr = C.map fun p => .string p.1 := by
  rw [strKeys_mapA] at hp
  have hm : (ss.mergeSort fun x y => decide (x ≤ y)).Perm ss := List.mergeSort_perm ..
  have hr : (C.map Prod.fst).Pairwise fun x y => klt x y = true := List.pairwise_map.2 hC
  have hb : ((ss.mergeSort fun x y => decide (x ≤ y)).map textO).map bytesO = ss.mergeSort fun x y => decide (x ≤ y) := bytesO_back _
  have hpt : ((ss.mergeSort fun x y => decide (x ≤ y)).map textO).Perm (C.map Prod.fst) := by
    have h1 := ((hm.trans hp).map textO)
    rw [List.map_map] at h1
    exact h1
  have hnd : ((ss.mergeSort fun x y => decide (x ≤ y)).map textO).Nodup := hpt.nodup_iff.2 (hr.imp fun {a b} h e => klt_ne h e)
  have he : (ss.mergeSort fun x y => decide (x ≤ y)).map textO = C.map Prod.fst := rise_ext (rise_sorted (by rw [hb]; exact leB_sorted ss) hnd) hr fun k => hpt.mem_iff
  have h2 : (ss.mergeSort fun x y => decide (x ≤ y)).map encStr = ((ss.mergeSort fun x y => decide (x ≤ y)).map textO).map .string := by rw [List.map_map]; rfl
  rw [h2, he, List.map_map]; rfl
theorem own_slice {w : World} {base e size n : Nat} {v : Value} {xs : List Value} (h : w.ownsRow base e size v n xs) : ∃ s : Sl, v = .slice s.a n s.c := by
  rcases h.2 with ⟨rfl, rfl⟩ | ⟨g, cap, cur, rfl, r⟩
  · exact ⟨Sl.none, rfl⟩
  · exact ⟨⟨some ⟨g, 0, none⟩, cap⟩, rfl⟩
def CB (F : Nat → Prop) (w wr : World) (b : Nat) : Prop := (F b ∨ w.heap.size + 2 ≤ b) ∧ b < wr.heap.size
theorem com_next {F : Nat → Prop} {w w2 wr w7 w8 : World} {T' : RT} {p' : Option Addr} {v0 : Value} (hz : w.heap.size + 2 ≤ wr.heap.size) (hF : ∀ b, F b → b < w.heap.size) (h7 : Ext wr w7) (h8 : Ext w7 w8) (hT : IsT w8 (Up (CB F w wr) w7 w8) T') (hp : rootV T' = .pointer p') (hb : Blk wr (w.heap.size + 1) 25 #[v0])
    (hs : Sb (fun c => c = w.heap.size + 1) w2 wr) :
    IsT (w8.setCell ⟨w.heap.size + 1, 0, none⟩ (.pointer p')) (CB F w (w8.setCell ⟨w.heap.size + 1, 0, none⟩ (.pointer p'))) T' ∧ Blk (w8.setCell ⟨w.heap.size + 1, 0, none⟩ (.pointer p')) (w.heap.size + 1) 25 #[rootV T'] ∧ Sb (fun c => c = w.heap.size + 1) w2 (w8.setCell ⟨w.heap.size + 1, 0, none⟩ (.pointer p')) := by
  have s7 := h7.size
  have s8 := h8.size
  refine ⟨(hT.agree (Agree.setCell w8 ⟨w.heap.size + 1, 0, none⟩ _ ?_)).mono fun i hi => ?_, ?_, (hs.ext (h7.trans h8)).set (p := ⟨w.heap.size + 1, 0, none⟩) (.inr rfl) _⟩
  · rintro (hf | hf)
    · rcases hf.1 with h | h
      · have := hF _ h; dsimp only at this; omega
      · dsimp only at h; omega
    · have : w7.heap.size ≤ w.heap.size + 1 := hf.1
      omega
  · rw [CB, World.size_setCell]
    rcases hi with hi | hi
    · exact ⟨hi.1, by have := hi.2; omega⟩
    · exact ⟨.inr (by have := hi.1; omega), hi.2⟩
  · rw [hp]; exact (hb.ext (h7.trans h8)).set_ 0 _
def CommitPost (H : Nat → Prop) (O : Nat) (d : OD) (w : World) (e : Ending) (w' : World) : Prop :=
  ∃ T' : RT, e = .returned (treeV T') ∧ OkR T' ∧ IsT w' (Up (OvF H w O d) w w') T' ∧ entsT T' = comE (entsT d.T) (optA d.C) (entsT d.T) ∧ Nw w w' ∧ (idleC (entsT d.T) (optA d.C) → T' = d.T)
theorem comE_at {B : List Ent} {C : AL SV} {j : Nat} {p : ByteArray × SV} (h : C[j]? = some p) (t : List Ent) : comE B ((optA C).drop j) t = comE B ((optA C).drop (j + 1)) (match p.2.opt with
    | some v => if (getE B p.1).any (fun was => decide (cmpV was v = 0)) then t else insE t p.1 v
    | none => if (getE B p.1).isSome then delE t p.1 else t) := by
  have h1 : (optA C)[j]? = some (p.1, p.2.opt) := by unfold optA; rw [List.getElem?_map, h]; rfl
  obtain ⟨h2, h3⟩ := List.getElem?_eq_some_iff.1 h1
  conv => lhs; rw [List.drop_eq_getElem_cons h2, h3]
  cases p.2.opt <;> rfl
theorem idle_at {B : List Ent} {C : AL SV} (hC : SortedA C) {j : Nat} {p : ByteArray × SV} (h : C[j]? = some p) (hi : idleC B (optA C)) : match p.2.opt with
    | some v => (getE B p.1).any (fun was => decide (cmpV was v = 0)) = true
    | none => getE B p.1 = none :=
  hi p.1 p.2.opt (by rw [getA_opt, getA_mem hC (List.mem_of_getElem? h)]; rfl)
theorem own_atO {base : Nat} {w : World} {t : TypeId} {s : Sl} {n : Nat} {xs : List Value} (h : w.ownsRow base t 1 (.slice s.a n s.c) n xs) {i : Nat} {v : Value} (hi : xs[i]? = some v) : ∃ g, s.a = some ⟨g, 0, none⟩ ∧ s.row = some g ∧ base ≤ g ∧ g < w.heap.size ∧ n ≤ s.c ∧ s.c ≤ maxLen ∧ w.cell? ⟨g, i, none⟩ = some v := by
  have hil := (List.getElem?_eq_some_iff.1 hi).1
  have hn : xs.length = n * 1 := h.1
  obtain ⟨g, cap, rfl, hg, h1, h2, hf⟩ := own_block h (by omega)
  obtain ⟨b, o, h3, h4, h5⟩ := Rd.of_own h
  obtain ⟨e1, -, -⟩ := h3.eq (by omega)
  obtain ⟨rfl, rfl⟩ : g = b ∧ 0 = o := by simpa using e1
  exact ⟨g, rfl, rfl, hg, hf.lt, h1, h2, by have := h5 i v hi; rwa [Nat.zero_add] at this⟩
theorem commit_some {H : Nat → Prop} {w : World} {O : Nat} {d : OD} (h : OvAt H w O d) {b : Nat} (hm : d.mb = some b) (hl : (entsT d.T).length + d.C.length ≤ 1000000) : Calls Tryz.prog 12 #[.pointer (some ⟨O, 0, none⟩)] w (CommitPost H O d w) := by
  have c0 : w.cell? ⟨O, 0, none⟩ = some (rootV d.T) := h.blk.cell 0
  have c1 : w.cell? ⟨O, 1, none⟩ = some (.map (some b)) := by have := h.blk.cell 1; rw [hm] at this; exact this
  have lO := h.blk.lt
  obtain ⟨r, hr⟩ := rootV_ptr d.T
  rw [hr] at c0
  have l1 : O < w.heap.size + 1 := by omega
  have l2 : O < w.heap.size + 1 + 1 := by omega
  have hF : ∀ b, OvF H w O d b → b < w.heap.size := fun b hb => hb.1
  obtain ⟨n, hn⟩ : ∃ n, d.C.length = n := ⟨_, rfl⟩
  rw [hn] at hl
  obtain ⟨n0, hn0⟩ : ∃ n, (entsT d.T).length = n := ⟨_, rfl⟩
  rw [hn0] at hl
  have HAT := Lib.hid h
  have HM := Lib.hid hm
  have HN := Lib.hid hn
  have HN0 := Lib.hid hn0
  have HR := Lib.hid hr
  have HF := Lib.hid hF
  have LO := Lib.hid lO
  clear h hm hr hF hn hn0
  go_enter Tryz.func12, Tryz.ntmps12
  go_wp2_with fail
  generalize hW0 : World.alloc _ _ = W0
  obtain ⟨hx0, hz0, hb0, hb1⟩ := two_blocks w _ _ _ _ W0 hW0
  have HX0 := Lib.hid hx0
  have HB0 := Lib.hid hb0
  have HB1 := Lib.hid hb1
  have HZ0 := Lib.hid hz0
  clear hW0 hx0 hb0 hb1 l1 l2 hz0
  refine ((callsIn_wide (n := 5)).1 (Tryz.maps_Keys_38 (some b) W0)).mono ?_
  rintro e w' ⟨rfl, rfl⟩
  go_wp2_with fail
  have hown : W0.ownsMap Tryz.prog 9 heldR b d.C.length (mapA SV.val d.C) := by
    have h1 := HAT.out.map
    rw [HM.out] at h1
    have hb := HAT.out.map.lt HM.out
    exact ownsMap_heap h1 ((Nw.of HX0.out).block b hb id)
  have hsz : Maps.size (mapA SV.val d.C) = n := by rw [size_mapA]; exact HN.out
  refine ((callsIn_wide (n := 5)).1 (Tryz.slices_Sorted_keys_37_38 b d.C.length (mapA SV.val d.C) heldR W0 hown (by rw [hsz]; unfold maxLen; omega) (by rw [hsz]; omega))).mono ?_
  rintro e w2 ⟨v, ss, rfl, hp, hrow, hnil, hbl⟩
  have hlen : ss.length = n := by have := hp.length_eq; rw [strKeys_mapA, List.length_map, HN.out] at this; exact this
  rw [keys_sorted HAT.out.sorted hp, hlen] at hrow
  obtain ⟨s, rfl⟩ := own_slice hrow
  rw [World.size_alloc, HZ0.out] at hrow
  have hn2 : Nw W0 w2 := (Nw.of ((Ext.refl W0).alloc #[.map (some b)] 26)).trans (Sb.new hbl)
  have hn02 : Nw w w2 := (Nw.of HX0.out).trans hn2
  have HN2 := Lib.hid hn02
  have HB0' := Lib.hid (hn2.blk HB0.out)
  have HB1' := Lib.hid (hn2.blk HB1.out)
  have HROW := Lib.hid hrow
  have hz2 : w.heap.size + 2 ≤ w2.heap.size := by have := hn2.size; have := HZ0.out; omega
  have HZ2 := Lib.hid hz2
  clear hown hsz hp hrow hnil hbl hn2 hn02 hlen c0 c1 HB0 HB1 hz2
  go_wp2_with fail
  go_loopw [23] (fun q wr => ∃ (j : Nat) (T1 : RT), q = .int .i64 j ∧ j ≤ n ∧ OkR T1 ∧ IsT wr (CB (OvF H w O d) w wr) T1 ∧ comE (entsT d.T) ((optA d.C).drop j) (entsT T1) = comE (entsT d.T) (optA d.C) (entsT d.T) ∧ (entsT T1).length ≤ n0 + j ∧ Blk wr (w.heap.size + 1) 25 #[rootV T1] ∧ Sb (fun c => c = w.heap.size + 1) w2 wr ∧ (idleC (entsT d.T) (optA d.C) → T1 = d.T)) (fun q _ => n - (intOf q).toNat)
  case atStart => exact ⟨0, d.T, rfl, Nat.zero_le _, HAT.out.ok, (HAT.out.tree.agree (Nw.agree HN2.out HF.out)).mono fun i hi => ⟨.inl hi, Nat.lt_of_lt_of_le hi.1 HN2.out.size⟩, rfl, by rw [HN0.out]; exact Nat.le_refl _, by rw [HR.out]; exact HB1'.out, Sb.refl _ _, fun _ => rfl⟩
  case round =>
    obtain ⟨j, T1, rfl, hj, ok, hT, hce, hlT, hbT, hsb, hid⟩ := hrel
    obtain ⟨p1, hp1⟩ := rootV_ptr T1
    have hzr : w.heap.size + 2 ≤ wr.heap.size := Nat.le_trans HZ2.out hsb.size
    by_cases hlt : j < n
    · have g1 : decide ((j : Int) < (n : Int)) = true := decide_eq_true (by omega)
      have g1' : (j : Int) < (n : Int) := by omega
      obtain ⟨p, hpj⟩ : ∃ p, d.C[j]? = some p := ⟨_, List.getElem?_eq_getElem (by rw [HN.out]; exact hlt)⟩
      have hpm := List.mem_of_getElem? hpj
      obtain ⟨g, hsa, hsrow, hbase, hgl, hnc, hcm, hcell⟩ := own_atO HROW.out (i := j) (v := .string p.1) (by rw [List.getElem?_map, hpj]; rfl)
      obtain ⟨sa, sc⟩ := s
      dsimp only at hsa hnc hcm
      subst hsa
      have lOw := LO.out
      have hn2r : Sb (fun c => c = w.heap.size + 1) w wr := (HN2.out.any _).trans hsb
      have hag : Agree (OvF H w O d) w wr := fun i hi => hn2r.block i hi.1 (by have := hi.1; omega)
      have kc : wr.cell? ⟨g, j, none⟩ = some (.string p.1) := (hsb.cell hgl (by omega)).trans hcell
      have kl : g < wr.heap.size := Nat.lt_of_lt_of_le hgl hsb.size
      have hob := hn2r.blk HAT.out.blk (by omega)
      rw [HR.out, HM.out] at hob
      have c0 : wr.cell? ⟨O, 0, none⟩ = some (.pointer r) := hob.cell 0
      have c1 : wr.cell? ⟨O, 1, none⟩ = some (.map (some b)) := hob.cell 1
      have lOr := hob.lt
      obtain ⟨hkm, hsv⟩ := HAT.out.vals p hpm
      have hlk := look_ov1 (W := wr) (HAT.out.map.heap fun b hb => hn2r.block b (HAT.out.map.lt hb) (by have := HAT.out.map.lt hb; omega)) hkm
      rw [HM.out, show hadA d.C p.1 = p.2 by unfold hadA; rw [getA_mem HAT.out.sorted hpm]; rfl] at hlk
      have hCB : ∀ i, CB (OvF H w O d) w wr i → i < wr.heap.size := fun i hi => hi.2
      have hlc : (entsT T1).length ≤ 1000000 := by omega
      have hv : RV wr (Lt wr.heap.size) p.2.v p.2.sl p.2.so := (hsv.1.agree hag).mono fun i hi => by have := hi.1; show i < _; omega
      have hget := fun (W : World) (hW : Ext wr W) => treeGet_any (k := p.1) (w := W) (F := OvF H w O d) (T := d.T) (fun i hi => by have := hi.1; have := hW.size; omega) (HAT.out.tree.agree (hag.trans (hW.agree fun i hi => by have := hi.1; omega))) HAT.out.ok (by rw [HN0.out]; omega)
      have hput := fun (W : World) (hW : Ext wr W) => put_any (k := p.1) (v := p.2.v) (sl := p.2.sl) (so := p.2.so) (fun b hb => Nat.lt_of_lt_of_le (hCB b hb) hW.size) (hT.agree (hW.agree hCB)) ok hlc hkm ((hv.agree (hW.agree fun _ h => h)).mono fun i hi => Nat.lt_of_lt_of_le hi hW.size)
      have hdel := fun (W : World) (hW : Ext wr W) => delete_any (fun b hb => Nat.lt_of_lt_of_le (hCB b hb) hW.size) (hT.agree (hW.agree hCB)) ok hlc p.1
      have hsame := fun (W : World) (hW : Ext wr W) (x : Val) (xl xo : Sl) (hx : RV W (Lt W.heap.size) x xl xo) => valueSame_any hx ((hv.agree (hW.agree fun _ h => h)).mono (G := Lt W.heap.size) fun i hi => Nat.lt_of_lt_of_le hi hW.size)
      have hnext := comE_at (B := entsT d.T) hpj (entsT T1)
      have hidl := idle_at (B := entsT d.T) HAT.out.sorted hpj
      rw [hce] at hnext
      unfold GetPost at hget
      rw [treeV, HR.out] at hget
      rw [treeV, hp1] at hput hdel
      have hx3 : Ext wr (wr.alloc (.cells p.2.cells 85)) := (Ext.refl wr).alloc _ _
      have hb3 := Blk.new wr 85 p.2.cells
      have hkeep : ∀ W, Ext wr W → IsT W (CB (OvF H w O d) w W) T1 ∧ Blk W (w.heap.size + 1) 25 #[rootV T1] ∧ Sb (fun c => c = w.heap.size + 1) w2 W := fun W hW =>
        ⟨(hT.agree (hW.agree hCB)).mono fun i hi => ⟨hi.1, Nat.lt_of_lt_of_le hi.2 hW.size⟩, hbT.ext hW, hsb.ext hW⟩
      have hmore : ∀ w7 w8 T' p', Ext wr w7 → Ext w7 w8 → IsT w8 (Up (CB (OvF H w O d) w wr) w7 w8) T' → rootV T' = .pointer p' → _ := fun w7 w8 T' p' h7 h8 h1 h2 => com_next (w2 := w2) hzr HF.out h7 h8 h1 h2 hbT hsb
      obtain ⟨k, has, v, sl, so⟩ := p
      dsimp only at kc hkm hlk hv hget hput hdel hsame hnext hidl hx3 hb3
      obtain ⟨og, hog⟩ : ∃ o, getE (entsT d.T) k = o := ⟨_, rfl⟩
      obtain ⟨gv, hgv⟩ : ∃ g, og.getD zeroV = g := ⟨_, rfl⟩
      obtain ⟨gb, hgb⟩ : ∃ g, og.isSome = g := ⟨_, rfl⟩
      rw [hog] at hget hnext hidl
      rw [hgv, hgb] at hget
      have HSS := Lib.hid (show ∀ W, Ext (wr.alloc (.cells (SV.cells ⟨has, v, sl, so⟩) 85)) W → (W.cell? ⟨wr.heap.size, 0, none⟩ = some (.bool has) ∧ W.cell? ⟨wr.heap.size, 1, none⟩ = some (.int .i64 v.kind) ∧ W.cell? ⟨wr.heap.size, 2, none⟩ = some (.bool v.b) ∧ W.cell? ⟨wr.heap.size, 3, none⟩ = some (.int .i64 v.i) ∧ W.cell? ⟨wr.heap.size, 4, none⟩ = some (.string v.t) ∧ W.cell? ⟨wr.heap.size, 5, none⟩ = some (.slice sl.a v.l.length sl.c) ∧ W.cell? ⟨wr.heap.size, 6, none⟩ = some (.slice so.a v.ok.length so.c)) ∧
          W.cell? ⟨w.heap.size + 1, 0, none⟩ = some (.pointer p1) ∧ W.frozen? ⟨w.heap.size + 1, 0, none⟩ = false ∧ w.heap.size + 1 < W.heap.size ∧ wr.heap.size < W.heap.size from fun W hW => by
        have h1 := hbT.ext (hx3.trans hW)
        rw [hp1] at h1
        exact ⟨(hb3.ext hW).c7, h1.cell 0, h1.frozen 0, h1.lt, (hb3.ext hW).lt⟩)
      have HX3 := Lib.hid hx3
      have HGET := Lib.hid hget
      have HPUT := Lib.hid hput
      have HDEL := Lib.hid hdel
      have HSAME := Lib.hid hsame
      have HNEXT := Lib.hid hnext
      have HIDL := Lib.hid hidl
      have HKEEP := Lib.hid hkeep
      have HMORE := Lib.hid hmore
      have HOK := Lib.hid ok
      have HLT := Lib.hid hlT
      have HIDE := Lib.hid hid
      clear hpj hpm hcell hn2r hag hob hkm hsv hv hget hput hdel hsame hnext hidl hx3 hb3 hkeep hmore hog ok hT hce hlT hbT hsb hid hCB hlc hp1
      go_wp2_with fail
      dsimp only [SV.cells] at HSS HX3
      generalize hW3 : wr.alloc (.cells _ _) = W3 at *
      clear hW3 kc kl c0 c1 lOr hlk
      refine (HGET.out W3 HX3.out).mono ?_
      rintro e w4 ⟨gl, gq, rfl, hx4, hrv⟩
      have hx5 := (Ext.refl w4).alloc #[.int .i64 gv.kind, .bool gv.b, .int .i64 gv.i, .string gv.t, .slice gl.a gv.l.length gl.c, .slice gq.a gv.ok.length gq.c] 34
      have hb5 := Blk.new w4 34 #[.int .i64 gv.kind, .bool gv.b, .int .i64 gv.i, .string gv.t, .slice gl.a gv.l.length gl.c, .slice gq.a gv.ok.length gq.c]
      have hrv5 := (hrv.agree (hx5.agree fun b hb => hb.2)).mono (G := Lt (w4.alloc (.cells #[.int .i64 gv.kind, .bool gv.b, .int .i64 gv.i, .string gv.t, .slice gl.a gv.l.length gl.c, .slice gq.a gv.ok.length gq.c] 34)).heap.size) fun b hb => Nat.lt_of_lt_of_le hb.2 hx5.size
      have HSM := Lib.hid (HSAME.out _ ((HX3.out.trans hx4).trans hx5) gv gl gq hrv5)
      have HXA := Lib.hid (HX3.out.trans hx4)
      have HXB := Lib.hid ((HX3.out.trans hx4).trans hx5)
      have HX5 := Lib.hid (hx4.trans hx5)
      obtain ⟨⟨q0, q1, q2, q3, q4, q5, q6⟩, q7, q8, q9, q10⟩ := HSS.out _ hx4
      clear hx4 hrv hx5 hb5 hrv5 HSAME HGET
      cases gb with
      | false =>
        have ho : og = none := by cases og with
          | none => rfl
          | some x => cases hgb
        cases has with
        | false =>
          have hne := HNEXT.out
          simp only [SV.opt, ho] at hne
          have HE := Lib.hid hne.symm
          clear hne
          go_wp2_with fail
          obtain ⟨e1, e2, e3⟩ := HKEEP.out _ HXB.out
          go_roundw
          case rel => exact ⟨j + 1, T1, by go_num, hlt, HOK.out, e1, HE.out, by have := HLT.out; omega, e2, e3, HIDE.out⟩
          case measure => simp [intOf]; omega
        | true =>
          have hne := HNEXT.out
          simp only [SV.opt, ho, if_true, Option.any_none, Bool.false_eq_true, if_false] at hne
          have HE := Lib.hid hne.symm
          have hni := HIDL.out
          have HNI := Lib.hid (show ¬ (match (SV.opt ⟨true, v, sl, so⟩) with
            | some v => og.any (fun was => decide (cmpV was v = 0)) = true
            | none => og = none) by simp [SV.opt, ho])
          clear hne hni
          go_wp2_with fail
          refine (HPUT.out _ HXB.out).mono ?_
          rintro e w8 ⟨T', rfl, hpr, hT', hx8⟩
          obtain ⟨p', hp'⟩ := rootV_ptr T'
          rw [treeV, hp']
          obtain ⟨-, q7, q8, q9, q10⟩ := HSS.out w8 (HX5.out.trans hx8)
          have HNX := Lib.hid (HMORE.out _ _ T' p' HXB.out hx8 hT' hp')
          have HPR := Lib.hid hpr
          clear hpr hT' hx8 hp'
          go_wp2_with fail
          obtain ⟨e1, e2, e3⟩ := HNX.out
          go_roundw
          case rel => exact ⟨j + 1, T', by go_num, hlt, HPR.out.ok HOK.out, e1, by rw [HPR.out.ents HOK.out]; exact HE.out, by rw [HPR.out.ents HOK.out]; have := HLT.out; rcases insE_len (entsT T1) k v with h | h <;> omega, e2, e3, fun hi => absurd (HIDL.out hi) HNI.out⟩
          case measure => simp [intOf]; omega
      | true =>
        obtain ⟨x, ho⟩ : ∃ x, og = some x := Option.isSome_iff_exists.1 hgb
        have hgx : x = gv := by rw [ho] at hgv; exact hgv
        cases has with
        | false =>
          have hne := HNEXT.out
          simp only [SV.opt, ho, Bool.false_eq_true, if_false, Option.isSome_some, if_true] at hne
          have HE := Lib.hid hne.symm
          have HNI := Lib.hid (show ¬ (match (SV.opt ⟨false, v, sl, so⟩) with
            | some v => og.any (fun was => decide (cmpV was v = 0)) = true
            | none => og = none) by simp [SV.opt, ho])
          clear hne
          go_wp2_with fail
          refine (HDEL.out _ HXB.out).mono ?_
          rintro e w8 ⟨T', rfl, hpr, hT', hx8⟩
          obtain ⟨p', hp'⟩ := rootV_ptr T'
          rw [treeV, hp']
          obtain ⟨-, q7, q8, q9, q10⟩ := HSS.out w8 (HX5.out.trans hx8)
          have HNX := Lib.hid (HMORE.out _ _ T' p' HXB.out hx8 hT' hp')
          have HPR := Lib.hid hpr
          clear hpr hT' hx8 hp'
          go_wp2_with fail
          obtain ⟨e1, e2, e3⟩ := HNX.out
          go_roundw
          case rel => exact ⟨j + 1, T', by go_num, hlt, HPR.out.ok HOK.out, e1, by rw [HPR.out.ents HOK.out]; exact HE.out, by rw [HPR.out.ents HOK.out]; have := HLT.out; have := (delE_sublist (entsT T1) k).length_le; omega, e2, e3, fun hi => absurd (HIDL.out hi) HNI.out⟩
          case measure => simp [intOf]; omega
        | true =>
          obtain ⟨sm, hsm⟩ : ∃ s, decide (cmpV gv v = 0) = s := ⟨_, rfl⟩
          have hsm1 := HSM.out
          rw [hsm] at hsm1
          have HSM1 := Lib.hid hsm1
          clear hsm1 HSM
          go_wp2_with fail
          refine HSM1.out.mono ?_
          rintro e w6 ⟨rfl, hx6⟩
          have HXC := Lib.hid (HXB.out.trans hx6)
          have HX6 := Lib.hid (HX5.out.trans hx6)
          obtain ⟨⟨q0, q1, q2, q3, q4, q5, q6⟩, q7, q8, q9, q10⟩ := HSS.out w6 (HX5.out.trans hx6)
          clear hx6 HSM1
          cases sm with
          | true =>
            have hne := HNEXT.out
            simp only [SV.opt, ho, if_true, Option.any_some, hgx, hsm] at hne
            have HE := Lib.hid hne.symm
            clear hne
            go_wp2_with fail
            obtain ⟨e1, e2, e3⟩ := HKEEP.out _ HXC.out
            go_roundw
            case rel => exact ⟨j + 1, T1, by go_num, hlt, HOK.out, e1, HE.out, by have := HLT.out; omega, e2, e3, HIDE.out⟩
            case measure => simp [intOf]; omega
          | false =>
            have hne := HNEXT.out
            simp only [SV.opt, ho, if_true, Option.any_some, hgx, hsm, Bool.false_eq_true, if_false] at hne
            have HE := Lib.hid hne.symm
            have HNI := Lib.hid (show ¬ (match (SV.opt ⟨true, v, sl, so⟩) with
              | some v => og.any (fun was => decide (cmpV was v = 0)) = true
              | none => og = none) by simp only [SV.opt, ho, if_true, Option.any_some, hgx, hsm]; simp)
            clear hne
            go_wp2_with fail
            refine (HPUT.out _ HXC.out).mono ?_
            rintro e w8 ⟨T', rfl, hpr, hT', hx8⟩
            obtain ⟨p', hp'⟩ := rootV_ptr T'
            rw [treeV, hp']
            obtain ⟨-, q7, q8, q9, q10⟩ := HSS.out w8 (HX6.out.trans hx8)
            have HNX := Lib.hid (HMORE.out _ _ T' p' HXC.out hx8 hT' hp')
            have HPR := Lib.hid hpr
            clear hpr hT' hx8 hp'
            go_wp2_with fail
            obtain ⟨e1, e2, e3⟩ := HNX.out
            go_roundw
            case rel => exact ⟨j + 1, T', by go_num, hlt, HPR.out.ok HOK.out, e1, by rw [HPR.out.ents HOK.out]; exact HE.out, by rw [HPR.out.ents HOK.out]; have := HLT.out; rcases insE_len (entsT T1) k v with h | h <;> omega, e2, e3, fun hi => absurd (HIDL.out hi) HNI.out⟩
            case measure => simp [intOf]; omega
    · obtain rfl : j = n := by omega
      have g1 : decide ((j : Int) < (j : Int)) = false := decide_eq_false (by omega)
      rw [hp1] at hbT
      have q0 : wr.cell? ⟨w.heap.size + 1, 0, none⟩ = some (.pointer p1) := hbT.cell 0
      have hbR := hsb.blk HB0'.out (by omega)
      have q1 : wr.cell? ⟨w.heap.size, 0, none⟩ = some (.pointer none) := hbR.cell 0
      have f0 := hbR.frozen 0
      have k0 := hbR.lt
      have k1 := hbT.lt
      have hfin : CommitPost H O d w (.returned (.agg #[.pointer p1])) (wr.setCell ⟨w.heap.size, 0, none⟩ (.pointer p1)) := by
        refine ⟨T1, by rw [treeV, hp1], ok, ?_, ?_, ?_, hid⟩
        · refine (hT.agree (Agree.setCell wr ⟨w.heap.size, 0, none⟩ _ ?_)).mono fun i hi => ?_
          · rintro ⟨hf | hf, -⟩
            · have := HF.out _ hf; dsimp only at this; omega
            · dsimp only at hf; omega
          · rw [Up, World.size_setCell]
            rcases hi.1 with h | h
            · exact .inl h
            · exact .inr ⟨by omega, hi.2⟩
        · rw [← hce, List.drop_eq_nil_of_le (by unfold optA; rw [List.length_map, HN.out]; exact Nat.le_refl _)]; rfl
        · have h1 : Sb (fun c => c = w.heap.size + 1 ∨ c = w.heap.size) w2 (wr.setCell ⟨w.heap.size, 0, none⟩ (.pointer p1)) := (hsb.mono fun i _ e => .inl e).set (p := ⟨w.heap.size, 0, none⟩) (.inr (.inr rfl)) _
          exact HN2.out.comp h1 fun i hi e => by omega
      have HFIN := Lib.hid hfin
      clear ok hT hce hlT hbT hsb hid hbR hfin hp1
      go_wp2_with fail
      refine bodyPost_ret (v := .agg #[.pointer p1]) (by simp [results, Tryz.results12, go_sem, q1]) rfl ?_
      exact HFIN.out
theorem commit_ov {H : Nat → Prop} {w : World} {O : Nat} {d : OD} (h : OvAt H w O d) (hl : (entsT d.T).length + d.C.length ≤ 1000000) : Calls Tryz.prog 12 #[.pointer (some ⟨O, 0, none⟩)] w (CommitPost H O d w) := by
  cases hm : d.mb with
  | some b => exact commit_some h hm hl
  | none =>
    have hC : d.C = [] := by have := h.map; rw [hm] at this; exact this
    exact (commit_none h hm).mono fun e w' ⟨he, hn⟩ => ⟨d.T, he, h.ok, (h.tree.agree (Nw.agree hn fun b hb => hb.1)).mono fun i hi => .inl hi, by rw [hC]; rfl, hn, fun _ => rfl⟩
def putC (k : ByteArray) (v : Val) : Int := if mayK k ≠ 0 then 8 else fitV v
theorem put_anyO {H : Nat → Prop} {w : World} {O : Nat} {d : OD} (h : OvAt H w O d) (hH : ∀ b, H b → b < w.heap.size) (hn : d.us.length ≤ 1000000) {k : ByteArray} (hk : k.size ≤ maxLen) {v : Val} {sl so : Sl} (hv : RV w (Lt w.heap.size) v sl so) (hc : cntV v ≤ 1100000) (hL : LibQ w) :
    Calls Tryz.prog 10 #[.pointer (some ⟨O, 0, none⟩), .string k, aggV v sl so] w fun e w' => e = .returned (.int .i64 (putC k v)) ∧ ((putC k v = 0 ∧ ∃ sl so mb s, OvTo H w O d (d.step k ⟨true, v, sl, so⟩ mb s) w') ∨ (putC k v ≠ 0 ∧ Nw w w')) := by
  have hmay := fun W (hW : Nw w W) => keysMay_any hk (hL.lib.nw hW)
  have hRV : ∀ W, Nw w W → RV W (Lt W.heap.size) v sl so := fun W hW => (hv.agree (Nw.agree hW fun b hb => hb)).mono fun b hb => Nat.lt_of_lt_of_le hb hW.size
  have hfit := fun W (hW : Nw w W) => fits_any (hRV W hW) hc (hL.nw hW)
  by_cases hm : mayK k = 0
  · rw [hm] at hmay
    have hp : putC k v = fitV v := by unfold putC; rw [if_neg (by simp [hm])]
    rw [hp]
    by_cases hf : fitV v = 0
    · rw [hf] at hfit
      exact (put_ov h hH hn hk hv hmay hfit).mono fun e w' h => by rw [hf]; exact ⟨h.1, .inl ⟨rfl, h.2⟩⟩
    · exact (put_ov_no hmay hfit hf).mono fun e w' h => ⟨h.1, .inr ⟨hf, h.2⟩⟩
  · have hp : putC k v = 8 := by unfold putC; rw [if_pos hm]
    rw [hp]
    exact (put_ov_key hmay hm).mono fun e w' h => ⟨h.1, .inr ⟨by decide, h.2⟩⟩
theorem OvAt.turn {H H' G : Nat → Prop} {w w' : World} {O : Nat} {d : OD} (h : OvAt H w O d) (k : Sb G w w') (hG : ∀ b, G b → H b) (hH : ∀ b, H' b → H b ∨ w.heap.size ≤ b) : OvAt H' w' O d := by
  have ha : Agree (OvF H w O d) w w' := fun b hb => k.block b hb.1 fun hh => hb.2.2 (hG b hh)
  have hm : ∀ i, OvF H w O d i → OvF H' w' O d i := fun i hi => ⟨Nat.lt_of_lt_of_le hi.1 k.size, hi.2.1, fun hh => (hH i hh).elim hi.2.2 fun h2 => by have := hi.1; omega⟩
  have hn : ∀ b, OvB O d b → ¬ G b := fun b hb hg => h.out b hb (hG b hg)
  obtain ⟨xs, r1, r2, r3⟩ := h.row
  exact ⟨k.blk h.blk (hn O (.inl rfl)), h.map.heap fun b hb => k.block b (h.map.lt hb) (hn b (.inr (.inl hb))),
    ⟨xs, r1, own_agree r2 k.agree fun b hb => ⟨h.row_lt hb, hn b (.inr (.inr hb))⟩, fun i u v hu hv => ((r3 i u v hu hv).agree ha).mono hm⟩,
    fun p hp => ⟨(h.vals p hp).1, ((h.vals p hp).2.agree ha).mono hm⟩, fun u hu => ⟨(h.olds u hu).1, fun o ho => (((h.olds u hu).2 o ho).agree ha).mono hm⟩,
    h.hist, h.h0, h.last, h.sorted, (h.tree.agree ha).mono hm, h.ok, h.ne, fun b hb hh => (hH b hh).elim (h.out b hb) fun h2 => by have := h.own_lt hb; omega, h.some_⟩
theorem Wr.sb {w w' : World} {s : Sl} (h : Wr w w' s.row) : Sb (fun b => s.row = some b) w w' := ⟨h.grown.os, h.grown.tape, h.grown.output, h.grown.size, fun i hi hn => h.grown.block i hi fun e => hn e.symm⟩
theorem rows_ne {w : World} {base base' e e' size size' n n' : Nat} {s s' : Sl} {xs xs' : List Value} (h : w.ownsRow base e size (.slice s.a n s.c) n xs) (h' : w.ownsRow base' e' size' (.slice s'.a n' s'.c) n' xs') (hne : e ≠ e') {b : Nat} (hb : s.row = some b) (hb' : s'.row = some b) : False := by
  have k1 : ∃ cur, w.heap[b]? = some (.cells cur e (0, 0)) := by
    rcases h.2 with ⟨hv, -⟩ | ⟨g, cap, cur, hv, -, hc, -⟩
    · injection hv with e1; rw [Sl.row, e1] at hb; cases hb
    · injection hv with e1
      rw [Sl.row, e1] at hb
      have : g = b := by simpa using hb
      subst this; exact ⟨_, hc⟩
  have k2 : ∃ cur, w.heap[b]? = some (.cells cur e' (0, 0)) := by
    rcases h'.2 with ⟨hv, -⟩ | ⟨g, cap, cur, hv, -, hc, -⟩
    · injection hv with e1; rw [Sl.row, e1] at hb'; cases hb'
    · injection hv with e1
      rw [Sl.row, e1] at hb'
      have : g = b := by simpa using hb'
      subst this; exact ⟨_, hc⟩
  obtain ⟨c1, k1⟩ := k1
  obtain ⟨c2, k2⟩ := k2
  rw [k1] at k2
  injection k2 with k2
  injection k2 with k3 k4
  exact hne k4
structure TM where
  T : RT
  m : Nat
  C : AL SV
abbrev RwH (s1 s2 : Sl) : Nat → Prop := fun b => s1.row = some b ∨ s2.row = some b
structure TMok (w : World) (s1 s2 : Sl) (O : Nat) (T : RT) (d : OD) (t : TM) : Prop where
  ok : OkR t.T
  tree : IsT w (OvF (RwH s1 s2) w O d) t.T
  at_ : d.Hs[t.m]? = some t.C
  le : t.m ≤ d.us.length
  ents : entsT t.T = comE (entsT T) (optA t.C) (entsT T)
theorem TMok.go {w w' : World} {s1 s2 : Sl} {O : Nat} {T : RT} {d : OD} {t : TM} (h : TMok w s1 s2 O T d t) (k : Nw w w') : TMok w' s1 s2 O T d t :=
  ⟨h.ok, (h.tree.agree (Nw.agree k fun b hb => hb.1)).mono fun b hb => ⟨Nat.lt_of_lt_of_le hb.1 k.size, hb.2⟩, h.at_, h.le, h.ents⟩
structure MkI (w : World) (B O : Nat) (T : RT) (s1 s2 : Sl) (d : OD) (ts : List TM) (ms : List Nat) (W : World) : Prop where
  ov : OvAt (RwH s1 s2) W O d
  below : d.T = T
  own1 : W.ownsRow B 25 1 (.slice s1.a ts.length s1.c) ts.length (ts.map fun t => rootV t.T)
  own2 : W.ownsRow B 3 1 (.slice s2.a ms.length s2.c) ms.length (ms.map fun (m : Nat) => Value.int .i64 (m : Int))
  items : ∀ t ∈ ts, TMok W s1 s2 O T d t
  new : ∀ b, OvB O d b → w.heap.size ≤ b
  nw : Nw w W
  base : B ≤ W.heap.size
section
variable {w W W' : World} {B O : Nat} {T : RT} {s1 s2 : Sl} {d : OD} {ts : List TM} {ms : List Nat}
theorem MkI.rows_lt (h : MkI w B O T s1 s2 d ts ms W) {b : Nat} (hb : RwH s1 s2 b) : B ≤ b ∧ b < W.heap.size := hb.elim (fun e => own_row h.own1 e) (fun e => own_row h.own2 e)
theorem MkI.go (h : MkI w B O T s1 s2 d ts ms W) (k : Nw W W') : MkI w B O T s1 s2 d ts ms W' := by
  have ha : Agree (Lt W.heap.size) W W' := Nw.agree k fun _ h => h
  refine ⟨h.ov.nw k, h.below, own_agree h.own1 ha fun b hb => (h.rows_lt (.inl hb)).2, own_agree h.own2 ha fun b hb => (h.rows_lt (.inr hb)).2, fun t ht => ?_, h.new, h.nw.trans k, Nat.le_trans h.base k.size⟩
  have hi := h.items t ht
  exact ⟨hi.ok, (hi.tree.agree (ha.mono fun b hb => hb.1)).mono fun b hb => ⟨Nat.lt_of_lt_of_le hb.1 k.size, hb.2⟩, hi.at_, hi.le, hi.ents⟩
theorem MkI.step {k : ByteArray} {sv : SV} {mb : Option Nat} {s : Sl} (h : MkI w B O T s1 s2 d ts ms W) (ht : OvTo (RwH s1 s2) W O d (d.step k sv mb s) W') : MkI w B O T s1 s2 (d.step k sv mb s) ts ms W' := by
  have ha : Agree (fun b => b < W.heap.size ∧ ¬ OvB O d b) W W' := fun b hb => ht.sb.block b hb.1 hb.2
  have hr : ∀ b, RwH s1 s2 b → ¬ OvB O d b := fun b hb ho => h.ov.out b ho hb
  refine ⟨ht.at_, h.below, own_agree h.own1 ha fun b hb => ⟨(h.rows_lt (.inl hb)).2, hr b (.inl hb)⟩, own_agree h.own2 ha fun b hb => ⟨(h.rows_lt (.inr hb)).2, hr b (.inr hb)⟩, fun t hm => ?_, fun b hb => (ht.new b hb).elim (h.new b) fun hh => Nat.le_trans h.nw.size hh, h.nw.comp ht.sb fun i hi e => by have := h.new i e; omega, Nat.le_trans h.base ht.sb.size⟩
  have hi := h.items t hm
  refine ⟨hi.ok, (hi.tree.agree (ha.mono fun b hb => ⟨hb.1, hb.2.1⟩)).mono fun b hb => ⟨Nat.lt_of_lt_of_le hb.1 ht.sb.size, fun ho => (ht.new b ho).elim hb.2.1 (fun hh => by have := hb.1; omega), hb.2.2⟩, ?_, ?_, hi.ents⟩
  · show (d.Hs ++ _)[t.m]? = _
    rw [List.getElem?_append_left (List.getElem?_eq_some_iff.1 hi.at_).1]; exact hi.at_
  · show t.m ≤ (d.us ++ _).length
    have := hi.le; rw [List.length_append]; omega
theorem MkI.tree {s1' : Sl} {t : TM} (h : MkI w B O T s1 s2 d ts ms W) (hB : w.heap.size ≤ B) (ht : TMok W s1 s2 O T d t) (hown : W'.ownsRow B 25 1 (.slice s1'.a (ts.length + 1) s1'.c) (ts.length + 1) (ts.map (fun t => rootV t.T) ++ [rootV t.T])) (hwr : Wr W W' s1.row) (hs : s1'.a = s1.a ∨ s1'.a = some ⟨W.heap.size, 0, none⟩ ∧ Wr W W' none) :
    MkI w B O T s1' s2 d (ts ++ [t]) ms W' := by
  have hk : Sb (fun b => s1.row = some b) W W' := ⟨hwr.grown.os, hwr.grown.tape, hwr.grown.output, hwr.grown.size, fun i hi hn => hwr.grown.block i hi fun e => hn e.symm⟩
  have hrow : ∀ b, s1'.row = some b → s1.row = some b ∨ W.heap.size ≤ b := fun b hb => by
    rcases hs with e | ⟨e, -⟩
    · exact .inl (by rw [Sl.row, ← e]; exact hb)
    · right; rw [Sl.row, e] at hb; have : W.heap.size = b := by simpa using hb
      omega
  have hH : ∀ b, RwH s1' s2 b → RwH s1 s2 b ∨ W.heap.size ≤ b := fun b hb => hb.elim (fun e => (hrow b e).imp .inl id) fun e => .inl (.inr e)
  have hit : ∀ u, TMok W s1 s2 O T d u → TMok W' s1' s2 O T d u := fun u hu =>
    ⟨hu.ok, (hu.tree.agree fun b hb => hk.block b hb.1 fun e => hb.2.2 (.inl e)).mono fun b hb => ⟨Nat.lt_of_lt_of_le hb.1 hk.size, hb.2.1, fun e => (hH b e).elim hb.2.2 fun hh => by have := hb.1; omega⟩, hu.at_, hu.le, hu.ents⟩
  refine ⟨h.ov.turn hk (fun b e => .inl e) hH, h.below, by rw [List.length_append, List.map_append]; exact hown, own_agree h.own2 (F := fun b => b < W.heap.size ∧ s2.row = some b) (fun b hb => hk.block b hb.1 fun e => rows_ne h.own1 h.own2 (by decide) e hb.2) fun b hb => ⟨(h.rows_lt (.inr hb)).2, hb⟩, fun u hu => ?_, h.new, h.nw.comp hk fun i hi e => by have := (h.rows_lt (.inl e)).1; omega, Nat.le_trans h.base hk.size⟩
  rcases List.mem_append.1 hu with hu | hu
  · exact hit u (h.items u hu)
  · rw [List.mem_singleton.1 hu]; exact hit t ht
theorem MkI.mark {s2' : Sl} {m : Nat} (h : MkI w B O T s1 s2 d ts ms W) (hB : w.heap.size ≤ B) (hown : W'.ownsRow B 3 1 (.slice s2'.a (ms.length + 1) s2'.c) (ms.length + 1) (ms.map (fun (m : Nat) => Value.int .i64 (m : Int)) ++ [.int .i64 (m : Int)])) (hwr : Wr W W' s2.row) (hs : s2'.a = s2.a ∨ s2'.a = some ⟨W.heap.size, 0, none⟩ ∧ Wr W W' none) :
    MkI w B O T s1 s2' d ts (ms ++ [m]) W' := by
  have hk : Sb (fun b => s2.row = some b) W W' := ⟨hwr.grown.os, hwr.grown.tape, hwr.grown.output, hwr.grown.size, fun i hi hn => hwr.grown.block i hi fun e => hn e.symm⟩
  have hrow : ∀ b, s2'.row = some b → s2.row = some b ∨ W.heap.size ≤ b := fun b hb => by
    rcases hs with e | ⟨e, -⟩
    · exact .inl (by rw [Sl.row, ← e]; exact hb)
    · right; rw [Sl.row, e] at hb; have : W.heap.size = b := by simpa using hb
      omega
  have hH : ∀ b, RwH s1 s2' b → RwH s1 s2 b ∨ W.heap.size ≤ b := fun b hb => hb.elim (fun e => .inl (.inl e)) fun e => (hrow b e).imp .inr id
  have hit : ∀ u, TMok W s1 s2 O T d u → TMok W' s1 s2' O T d u := fun u hu =>
    ⟨hu.ok, (hu.tree.agree fun b hb => hk.block b hb.1 fun e => hb.2.2 (.inr e)).mono fun b hb => ⟨Nat.lt_of_lt_of_le hb.1 hk.size, hb.2.1, fun e => (hH b e).elim hb.2.2 fun hh => by have := hb.1; omega⟩, hu.at_, hu.le, hu.ents⟩
  exact ⟨h.ov.turn hk (fun b e => .inr e) hH, h.below, own_agree h.own1 (F := fun b => b < W.heap.size ∧ s1.row = some b) (fun b hb => hk.block b hb.1 fun e => rows_ne h.own1 h.own2 (by decide) hb.2 e) fun b hb => ⟨(h.rows_lt (.inl hb)).2, hb⟩, by rw [List.length_append, List.map_append]; exact hown, fun u hu => hit u (h.items u hu), h.new, h.nw.comp hk fun i hi e => by have := (h.rows_lt (.inr e)).1; omega, Nat.le_trans h.base hk.size⟩
end
end Go.Proofs.YtechahocffcbpaaGreatDoor
namespace Go.Proofs.YtechahocffcbpaaGreatDoor
open Go.RowKit Go.Maps
set_option linter.unusedVariables false
set_option linter.unusedSimpArgs false
theorem undo1_any {w : World} {O b : Nat} {C : AL SV} {r sl : Value} {u : UD} {bw bd bo bk : Nat} {o : SV} (hblk : Blk w O 29 #[r, .map (some b), sl]) (hmap : OvMap w (some b) C) (hs : SortedA C) (hC : C.length < maxLen) (hk : u.k.size ≤ maxLen)
    (hbw : Blk w bw 4 #[.bool u.old.isSome]) (hbd : Blk w bd 85 o.cells) (ho : ∀ x, u.old = some x → x = o) (hbo : Blk w bo 43 #[.pointer (some ⟨O, 0, none⟩)]) (hbk : Blk w bk 9 #[.string u.k]) :
    Calls Tryz.prog 62 #[.pointer (some ⟨bw, 0, none⟩), .pointer (some ⟨bd, 0, none⟩), .pointer (some ⟨bo, 0, none⟩), .pointer (some ⟨bk, 0, none⟩)] w fun e w' => (∃ r, e = .returned r) ∧ OvMap w' (some b) (undo1 u C) ∧ Sb (fun c => c = b) w w' := by
  obtain ⟨k, old⟩ := u
  have cw : w.cell? ⟨bw, 0, none⟩ = some (.bool old.isSome) := hbw.cell 0
  have nO := OvMap.ne hmap hblk
  have no := OvMap.ne hmap hbo
  have nk := OvMap.ne hmap hbk
  have nd := OvMap.ne hmap hbd
  have HMAP := Lib.hid hmap
  cases old with
  | none =>
    have HSS := Lib.hid (show ∀ W, Sb (fun c => c = b) w W → W.cell? ⟨bo, 0, none⟩ = some (.pointer (some ⟨O, 0, none⟩)) ∧ W.cell? ⟨O, 1, none⟩ = some (.map (some b)) ∧ W.cell? ⟨bk, 0, none⟩ = some (.string k) from
      fun W hW => ⟨(hW.blk hbo no).cell 0, (hW.blk hblk nO).cell 1, (hW.blk hbk nk).cell 0⟩)
    clear hblk hbw hbd hbo hbk hmap ho nO no nk nd
    go_enter Tryz.func62, Tryz.ntmps62
    go_wp2_with fail
    refine wp_region_held_drew (S := (fun w' => Sb (fun c => c = b) w w')) (by kernel_rfl) (((Sb.refl _ w).drew)) (fun hHeld => ?_)
    refine heldT 0 (some 11) HSS hHeld ?_
    refine heldT 1 (some 12) HSS hHeld ?_
    refine heldT 2 (some 13) HSS hHeld ?_
    refine heldT 3 (some 14) HSS hHeld ?_
    refine heldT 4 (some 15) HSS hHeld ?_
    refine held_call (i := 5) (by kernel_rfl) rfl (by rfl) (fun K hK => ?_)
    skip
    (refine oper_delA (b := b) (C := C) (k := k) rfl rfl rfl (HMAP.out.heap fun _ _ => rfl) hk ?_; intro w7 hown7 hsb7)
    refine hK.out _ _ (hHeld.trans hsb7) (fun hHeld => ?_)
    clear hK K
    try simp only [Act.put, List.setIfInBounds_toArray, List.set_cons_zero, List.set_cons_succ]
    refine wpAnyH_done (by kernel_rfl) ?_ _
    go_end0
    exact ⟨⟨_, rfl⟩, hown7, hHeld⟩
  | some x =>
    obtain rfl := ho x rfl
    obtain ⟨has, v, sl', so⟩ := x
    have HSS := Lib.hid (show ∀ W, Sb (fun c => c = b) w W → W.cell? ⟨bo, 0, none⟩ = some (.pointer (some ⟨O, 0, none⟩)) ∧ W.cell? ⟨O, 1, none⟩ = some (.map (some b)) ∧ W.cell? ⟨bk, 0, none⟩ = some (.string k) ∧ W.cell? ⟨bd, 0, none⟩ = some (.bool has) ∧ W.cell? ⟨bd, 1, none⟩ = some (.int .i64 v.kind) ∧ W.cell? ⟨bd, 2, none⟩ = some (.bool v.b) ∧ W.cell? ⟨bd, 3, none⟩ = some (.int .i64 v.i) ∧ W.cell? ⟨bd, 4, none⟩ = some (.string v.t) ∧ W.cell? ⟨bd, 5, none⟩ = some (.slice sl'.a v.l.length sl'.c) ∧ W.cell? ⟨bd, 6, none⟩ = some (.slice so.a v.ok.length so.c) from
      fun W hW => ⟨(hW.blk hbo no).cell 0, (hW.blk hblk nO).cell 1, (hW.blk hbk nk).cell 0, (hW.blk hbd nd).cell 0, (hW.blk hbd nd).cell 1, (hW.blk hbd nd).cell 2, (hW.blk hbd nd).cell 3, (hW.blk hbd nd).cell 4, (hW.blk hbd nd).cell 5, (hW.blk hbd nd).cell 6⟩)
    clear hblk hbw hbd hbo hbk hmap ho nO no nk nd
    go_enter Tryz.func62, Tryz.ntmps62
    go_wp2_with fail
    refine wp_region_held_drew (S := (fun w' => Sb (fun c => c = b) w w')) (by kernel_rfl) (((Sb.refl _ w).drew)) (fun hHeld => ?_)
    refine heldT 0 (some 5) HSS hHeld ?_
    refine heldT 1 (some 6) HSS hHeld ?_
    refine heldT 2 (some 7) HSS hHeld ?_
    refine heldT 3 (some 8) HSS hHeld ?_
    refine heldT 4 (some 9) HSS hHeld ?_
    refine heldT 5 (some 10) HSS hHeld ?_
    refine held_call (i := 6) (by kernel_rfl) rfl (by rfl) (fun K hK => ?_)
    skip
    (refine oper_putA (b := b) (C := C) (k := k) (s := ⟨has, v, sl', so⟩) rfl rfl rfl rfl (HMAP.out.heap fun _ _ => rfl) hk hC hs ?_; intro w7 hown7 hsb7)
    refine hK.out _ _ (hHeld.trans hsb7) (fun hHeld => ?_)
    clear hK K
    try simp only [Act.put, List.setIfInBounds_toArray, List.set_cons_zero, List.set_cons_succ]
    refine wpAnyH_done (by kernel_rfl) ?_ _
    go_end0
    exact ⟨⟨_, rfl⟩, hown7, hHeld⟩
theorem own_cut {w : World} {base e n c : Nat} {a : Option Addr} {xs : List Value} (h : w.ownsRow base e 1 (.slice a n c) n xs) {m : Nat} (hm : m ≤ n) : w.ownsRow base e 1 (.slice a m c) m (xs.take m) := by
  have hl := h.1
  rcases h.2 with ⟨hv, h0⟩ | ⟨g, cap, cur, hv, hbg, hg, hnc, hcm, hcs, ht⟩
  · obtain rfl : m = 0 := by omega
    subst h0
    exact ⟨by simp, .inl ⟨hv, rfl⟩⟩
  · injection hv with h1 h2 h3
    subst h1 h3
    refine ⟨by rw [List.length_take]; omega, .inr ⟨g, c, cur, rfl, hbg, hg, by omega, hcm, hcs, ?_⟩⟩
    rw [← ht, List.take_take]
    congr 1
    omega
section
variable {H : Nat → Prop} {w : World} {O : Nat} {d : OD}
structure BackMid (w : World) (O : Nat) (d : OD) (xs : List Value) (j : Nat) (W : World) : Prop where
  blk : Blk W O 29 #[rootV d.T, .map d.mb, .slice d.s.a d.us.length d.s.c]
  map : OvMap W d.mb (backA d.us d.C j)
  row : ∃ ys, W.ownsRow 0 1 1 (.slice d.s.a d.us.length d.s.c) d.us.length ys ∧ ∀ i, i < j → ys[i]? = xs[i]?
  sb : Sb (OvB O d) w W
def BackPost (H : Nat → Prop) (O : Nat) (d : OD) (m : Nat) (w : World) (e : Ending) (w' : World) : Prop :=
  e = .returned (.int .i64 0) ∧ OvTo H w O d ⟨d.T, d.mb, d.s, d.us.take m, d.Hs.take (m + 1), backA d.us d.C m⟩ w'
theorem back_end {m : Nat} (hm : m ≤ d.us.length) (h : OvAt H w O d) {xs : List Value} (hl : xs.length = d.us.length) (hun : ∀ (i : Nat) (u : UD) (v : Value), d.us[i]? = some u → xs[i]? = some v → UndoV w (OvF H w O d) O u v) {W : World} (hW : BackMid w O d xs m W) :
    OvTo H w O d ⟨d.T, d.mb, d.s, d.us.take m, d.Hs.take (m + 1), backA d.us d.C m⟩ (W.setCell ⟨O, 2, none⟩ (.slice d.s.a m d.s.c)) := by
  have hset : Sb (OvB O d) W (W.setCell ⟨O, 2, none⟩ (.slice d.s.a m d.s.c)) := (Sb.refl (OvB O d) W).set (p := ⟨O, 2, none⟩) (.inr (.inl rfl)) _
  have hall := hW.sb.trans hset
  have hset1 : Sb (fun c => c = O) W (W.setCell ⟨O, 2, none⟩ (.slice d.s.a m d.s.c)) := (Sb.refl (fun c => c = O) W).set (p := ⟨O, 2, none⟩) (.inr rfl) _
  have ha : Agree (OvF H w O d) w (W.setCell ⟨O, 2, none⟩ (.slice d.s.a m d.s.c)) := fun i hi => hall.block i hi.1 hi.2.1
  have hmm : ∀ i, OvF H w O d i → OvF H (W.setCell ⟨O, 2, none⟩ (.slice d.s.a m d.s.c)) O ⟨d.T, d.mb, d.s, d.us.take m, d.Hs.take (m + 1), backA d.us d.C m⟩ i := fun i hi => ⟨Nat.lt_of_lt_of_le hi.1 hall.size, hi.2.1, hi.2.2⟩
  obtain ⟨ys, hys, hyx⟩ := hW.row
  have htl : (d.us.take m).length = m := by rw [List.length_take]; omega
  have hC : d.Hs[m]? = some (backA d.us d.C m) := h.hist.back h.last (d.us.length - m) m (by omega)
  have hch := h.hist.take hm
  have hbO : ∀ b, d.mb = some b → b ≠ O := fun b hb e => h.ne.1 (by rw [hb, e])
  have hrec : ∀ (A : List UD) (C : AL SV), (∀ p ∈ C, p.1.size ≤ maxLen ∧ SVok w (OvF H w O d) p.2) → (∀ u ∈ A, u.k.size ≤ maxLen ∧ ∀ o, u.old = some o → SVok w (OvF H w O d) o) → ∀ p ∈ A.foldr undo1 C, p.1.size ≤ maxLen ∧ SVok w (OvF H w O d) p.2 := by
    intro A C hC0
    induction A with
    | nil => intro _; exact hC0
    | cons u r ih =>
      intro hA p hp
      have ih' := ih fun x hx => hA x (List.mem_cons_of_mem _ hx)
      have hu := hA u (List.mem_cons_self ..)
      rw [List.foldr_cons, undo1] at hp
      cases ho : u.old with
      | none => rw [ho] at hp; exact ih' p (List.mem_filter.1 hp).1
      | some o =>
        rw [ho] at hp
        rcases mem_putA hp with rfl | hp
        · exact ⟨hu.1, hu.2 o ho⟩
        · exact ih' p hp
  refine ⟨⟨?_, ?_, ⟨ys.take m, ?_, ?_, ?_⟩, ?_, ?_, hch, ?_, ?_, backA_sorted h.sorted _ _, (h.tree.agree ha).mono hmm, h.ok, h.ne, h.out, ?_⟩, hall, fun b hb => .inl hb⟩
  · have := hW.blk.set_ 2 (.slice d.s.a m d.s.c)
    show Blk _ O _ #[_, _, .slice d.s.a (d.us.take m).length d.s.c]
    rw [htl]; exact this
  · exact hW.map.heap fun b hb => hset1.block b (hW.map.lt hb) (hbO b hb)
  · show (ys.take m).length = (d.us.take m).length
    have := hys.1
    rw [htl, List.length_take]; omega
  · show World.ownsRow _ 0 _ 1 (.slice d.s.a (d.us.take m).length d.s.c) (d.us.take m).length _
    rw [htl]
    exact own_agree (own_cut hys hm) hset1.agree fun b hb => ⟨(own_row hys hb).2, fun e => h.ne.2.1 (by rw [← e]; exact hb)⟩
  · intro i u v hu hv
    have hu : (d.us.take m)[i]? = some u := hu
    have hi : i < m := by have := (List.getElem?_eq_some_iff.1 hu).1; omega
    rw [List.getElem?_take_of_lt hi] at hu hv
    rw [hyx i hi] at hv
    exact ((hun i u v hu hv).agree ha).mono hmm
  · intro p hp
    have := hrec (d.us.drop m) d.C h.vals (fun u hu => h.olds u (List.mem_of_mem_drop hu)) p hp
    exact ⟨this.1, (this.2.agree ha).mono hmm⟩
  · intro u hu
    have := h.olds u (List.mem_of_mem_take hu)
    exact ⟨this.1, fun o ho => ((this.2 o ho).agree ha).mono hmm⟩
  · show (d.Hs.take (m + 1))[0]? = _
    rw [List.getElem?_take_of_lt (by omega)]; exact h.h0
  · show (d.Hs.take (m + 1))[(d.us.take m).length]? = _
    rw [htl, List.getElem?_take_of_lt (by omega)]; exact hC
  · intro hne
    exact h.some_ fun e => hne (by show d.us.take m = []; rw [e]; exact List.take_nil)
theorem back_step {xs : List Value} {j g b : Nat} (h : OvAt H w O d) (hb : d.mb = some b) (hg : d.s.a = some ⟨g, 0, none⟩) {u : UD} (hu : d.us[j]? = some u) {W W1 : World} (hW : BackMid w O d xs (j + 1) W) (hm : OvMap W1 (some b) (undo1 u (backA d.us d.C (j + 1)))) (hs : Sb (fun c => c = b) W W1) :
    BackMid w O d xs j (W1.setCell ⟨g, j, none⟩ Value.nilFunc) := by
  have hj : j < d.us.length := (List.getElem?_eq_some_iff.1 hu).1
  have hrow : d.s.row = some g := by rw [Sl.row, hg]; rfl
  have hgb : g ≠ b := fun e => h.ne.2.2 b hb (by rw [hrow, e])
  have hgO : g ≠ O := fun e => h.ne.2.1 (by rw [hrow, e])
  have hbO : b ≠ O := fun e => h.ne.1 (by rw [hb, e])
  obtain ⟨ys, hys, hyx⟩ := hW.row
  have hown1 : W1.ownsRow 0 1 1 (.slice d.s.a d.us.length d.s.c) d.us.length ys := own_agree hys hs.agree fun i hi => ⟨(own_row hys hi).2, fun e => hgb (by rw [hrow] at hi; injection hi with hi; omega)⟩
  have hset : Sb (fun c => c = g) W1 (W1.setCell ⟨g, j, none⟩ Value.nilFunc) := (Sb.refl (fun c => c = g) W1).set (p := ⟨g, j, none⟩) (.inr rfl) _
  refine ⟨hset.blk (hs.blk hW.blk fun e => hbO e.symm) fun e => hgO e.symm, ?_, ⟨ys.set j Value.nilFunc, ?_, fun i hi => ?_⟩, ?_⟩
  · rw [hb, backA_step hu]
    exact hm.heap fun i hi => by
      injection hi with hi
      subst hi
      exact hset.block b (hm.lt rfl) fun e => hgb e.symm
  · rw [hg] at hown1 ⊢
    exact own_set hown1 hj _
  · rw [List.getElem?_set_ne (by omega)]
    exact hyx i (by omega)
  · exact (hW.sb.trans (hs.mono fun i _ e => .inr (.inl (by rw [hb, e])))).trans (hset.mono fun i _ e => .inr (.inr (by rw [hrow, e])))
end
theorem run_store_nilF (P : Program) (w : World) (a : Addr) (m : Mode) : (store a Value.nilFunc m).run P w = stored P w a Value.nilFunc m := run_store P w a _ m rfl
attribute [local go_sem] run_store_nilF
theorem own_cell {w : World} {base e n c g : Nat} {xs : List Value} (h : w.ownsRow base e 1 (.slice (some ⟨g, 0, none⟩) n c) n xs) {i : Nat} {u : Value} (hx : xs[i]? = some u) : w.cell? ⟨g, i, none⟩ = some u ∧ (n ≤ c ∧ c ≤ maxLen) ∧ g < w.heap.size ∧ w.frozen? ⟨g, i, none⟩ = false := by
  rcases h.2 with ⟨hv, h0⟩ | ⟨g', cap, cur, hv, hbg, hg, hnc, hcm, hcs, ht⟩
  · cases hv
  · injection hv with h1 h2 h3
    injection h1 with h1
    injection h1 with h1
    subst h1 h3
    have hi : i < n := by have := (List.getElem?_eq_some_iff.1 hx).1; have := h.1; omega
    have hb : Blk w g e cur := hg
    refine ⟨?_, ⟨hnc, hcm⟩, hb.lt, hb.frozen i⟩
    rw [hb.cell i]
    rw [← ht, List.getElem?_take_of_lt (by omega)] at hx
    simpa using hx
theorem back_ov {H : Nat → Prop} {w : World} {O : Nat} {d : OD} (h : OvAt H w O d) (hn : d.us.length ≤ 1000000) {m : Nat} (hm : m ≤ d.us.length) : Calls Tryz.prog 20 #[.pointer (some ⟨O, 0, none⟩), .int .i64 (m : Int)] w (BackPost H O d m w) := by
  have c2 : w.cell? ⟨O, 2, none⟩ = some (.slice d.s.a d.us.length d.s.c) := h.blk.cell 2
  have lO := h.blk.lt
  obtain ⟨xs, hl, hown, hun⟩ := h.row
  have g0 : decide ((m : Int) < 0) = false := decide_eq_false (by omega)
  have g1 : decide ((d.us.length : Int) < (m : Int)) = false := decide_eq_false (by omega)
  have g1' : decide (d.us.length < m) = false := decide_eq_false (by omega)
  have hst : BackMid w O d xs d.us.length w := ⟨h.blk, by rw [backA_end]; exact h.map, ⟨xs, hown, fun _ _ => rfl⟩, Sb.refl _ _⟩
  have HAT := Lib.hid h
  have HUN := Lib.hid hun
  have HL := Lib.hid hl
  have HST := Lib.hid hst
  clear h hun hl hst hown
  go_enter Tryz.func20, Tryz.ntmps20
  go_wp2_with fail
  go_loopw [5] (fun q wr => ∃ (j : Nat) (i : Int), q = .int .i64 i ∧ i + 1 = (j : Int) ∧ m ≤ j ∧ j ≤ d.us.length ∧ BackMid w O d xs j wr) (fun q _ => (intOf q + 1).toNat)
  case atStart => exact ⟨d.us.length, _, rfl, by omega, hm, Nat.le_refl _, HST.out⟩
  case round =>
    obtain ⟨j, i, rfl, hij, hmj, hjl, hW⟩ := hrel
    by_cases hlt : m < j
    · obtain ⟨j, rfl⟩ : ∃ k, j = k + 1 := ⟨j - 1, by omega⟩
      obtain rfl : i = (j : Int) := by omega
      have g2 : decide ((m : Int) ≤ (j : Int)) = true := decide_eq_true (by omega)
      have hu : d.us[j]? = some d.us[j] := List.getElem?_eq_getElem (by omega)
      obtain ⟨u, hue⟩ : ∃ u, d.us[j] = u := ⟨_, rfl⟩
      rw [hue] at hu
      obtain ⟨v, hv⟩ : ∃ v, xs[j]? = some v := ⟨_, List.getElem?_eq_getElem (by have := HL.out; omega)⟩
      obtain ⟨b, hb⟩ := HAT.out.some_ (fun e => by rw [e] at hu; simp at hu)
      obtain ⟨bw, bd, bo, bk, o, rfl, ⟨fw, fd, fo, fk⟩, kw, kd, ho, ko, kk⟩ := HUN.out j u v hu hv
      obtain ⟨ys, hys, hyx⟩ := hW.row
      have hyv : ys[j]? = some (undoC bw bd bo bk) := by rw [hyx j (by omega)]; exact hv
      obtain ⟨g, ha⟩ : ∃ g, d.s.a = some ⟨g, 0, none⟩ := by
        rcases hys.2 with ⟨-, h0⟩ | ⟨g, cap, cur, hv, -⟩
        · omega
        · injection hv with h1
          exact ⟨g, h1⟩
      rw [ha] at hys
      obtain ⟨cj, ⟨hnc, hcm⟩, lg, fj⟩ := own_cell hys hyv
      have b2 : wr.cell? ⟨O, 2, none⟩ = some (.slice d.s.a d.us.length d.s.c) := hW.blk.cell 2
      rw [ha] at b2
      have lW := hW.blk.lt
      have hblk : Blk wr O 29 #[rootV d.T, .map (some b), .slice d.s.a d.us.length d.s.c] := by rw [← hb]; exact hW.blk
      have hmap : OvMap wr (some b) (backA d.us d.C (j + 1)) := by rw [← hb]; exact hW.map
      have hun1 := undo1_any hblk hmap (backA_sorted HAT.out.sorted d.us (j + 1)) (by have := HAT.out.hist.short HAT.out.h0 _ _ (HAT.out.hist.back HAT.out.last (d.us.length - (j + 1)) (j + 1) (by omega)); unfold maxLen; omega) (HAT.out.olds u (List.mem_of_getElem? hu)).1 (hW.sb.blk kw fw.2.1) (hW.sb.blk kd fd.2.1) ho (hW.sb.blk ko fo.2.1) (hW.sb.blk kk fk.2.1)
      have hrg : d.s.row = some g := by rw [Sl.row, ha]; rfl
      have hgb : ¬ g = b := fun e => HAT.out.ne.2.2 b hb (by rw [hrg, e])
      have hOb : ¬ O = b := fun e => HAT.out.ne.1 (by rw [hb, e])
      have HW := Lib.hid hW
      have HU := Lib.hid hu
      have HB := Lib.hid hb
      have HA := Lib.hid ha
      have HUN1 := Lib.hid hun1
      have j0 : (0 : Int) ≤ (j : Int) := by omega
      have j1 : (j : Int) < (d.us.length : Int) := by omega
      have fj2 : ∀ W, Sb (fun c => c = b) wr W → W.frozen? ⟨g, j, none⟩ = false ∧ W.cell? ⟨g, j, none⟩ = some (undoC bw bd bo bk) ∧ W.cell? ⟨O, 2, none⟩ = some (.slice (some ⟨g, 0, none⟩) d.us.length d.s.c) ∧ g < W.heap.size := fun W hS =>
        ⟨(World.frozen?_of_block (hS.block g lg hgb)).trans fj, (hS.cell lg hgb).trans cj, (hS.cell lW hOb).trans b2, Nat.lt_of_lt_of_le lg hS.size⟩
      have FJ := Lib.hid fj2
      clear hW hij c2 hu hue hv hb fw fd fo fk kw kd ho ko kk hys hyx hyv ha hblk hmap hun1 hrg hgb hOb fj2 HST
      go_wp2_with (go_at_call 62; refine (HUN1.out).mono ?_; rintro e w1 ⟨⟨r, rfl⟩, hm1, hs1⟩; obtain ⟨f1, c1, b3, l1⟩ := FJ.out w1 hs1; have HM1 := Lib.hid hm1; have HS1 := Lib.hid hs1; clear hm1 hs1 FJ)
      go_roundw
      case rel => exact ⟨j, (j : Int) - 1, by go_num, by omega, by omega, by omega, back_step HAT.out HB.out HA.out HU.out HW.out HM1.out HS1.out⟩
      case measure => simp [intOf]
    · obtain rfl : j = m := by omega
      have g2 : decide ((j : Int) ≤ i) = false := decide_eq_false (by omega)
      have b2 : wr.cell? ⟨O, 2, none⟩ = some (.slice d.s.a d.us.length d.s.c) := hW.blk.cell 2
      have f2 := hW.blk.frozen 2
      have lW := hW.blk.lt
      have HW := Lib.hid hW
      clear hW hij c2
      have hca : (d.s.a = none ∧ d.us.length = 0 ∧ d.s.c = 0) ∨ ∃ g, d.s.a = some ⟨g, 0, none⟩ ∧ d.us.length ≤ d.s.c ∧ d.s.c ≤ maxLen := by
        obtain ⟨ys, hys, -⟩ := HW.out.row
        rcases hys.2 with ⟨hv, h0⟩ | ⟨g, cap, cur, hv, -, -, hnc, hcm, -⟩
        · injection hv with h1 h2 h3
          exact .inl ⟨h1, h0, h3⟩
        · injection hv with h1 h2 h3
          exact .inr ⟨g, h1, by rw [h3]; exact hnc, by rw [h3]; exact hcm⟩
      rcases hca with ⟨ha, hz, hc⟩ | ⟨g, ha, hnc, hcm⟩
      · obtain rfl : j = 0 := by omega
        have HA := Lib.hid ha
        have HC := Lib.hid hc
        have HZ := Lib.hid hz
        rw [ha, hz, hc] at b2
        clear ha hc hz
        have g3 : decide ((0 : Int) ≤ i) = false := g2
        go_wp2_with fail
        refine bodyPost_ret (v := .int .i64 0) (by simp [results, Tryz.results20, go_sem]) rfl ?_
        have hend := back_end hm HAT.out HL.out HUN.out HW.out
        rw [HA.out, HC.out] at hend
        exact ⟨rfl, hend⟩
      · rw [ha] at b2
        have HA := Lib.hid ha
        clear ha
        have k0 : (0 : Int) ≤ (j : Int) := by omega
        have k1 : (j : Int) ≤ (d.s.c : Int) := by omega
        go_wp2_with fail
        refine bodyPost_ret (v := .int .i64 0) (by simp [results, Tryz.results20, go_sem]) rfl ?_
        have hend := back_end hm HAT.out HL.out HUN.out HW.out
        rw [HA.out] at hend
        exact ⟨rfl, hend⟩
end Go.Proofs.YtechahocffcbpaaGreatDoor
namespace Go.Proofs.YtechahocffcbpaaGreatDoor
open Go.RowKit
set_option linter.unusedVariables false
set_option linter.unusedSimpArgs false
theorem treeSame_any {w : World} {F F' : Nat → Prop} {T U : RT} (hF : ∀ b, F b → b < w.heap.size) (hF' : ∀ b, F' b → b < w.heap.size) (hT : IsT w F T) (hU : IsT w F' U) (ok : OkR T) (ok' : OkR U) (hl : (entsT T).length ≤ 1000000) (hl' : (entsT U).length ≤ 1000000) :
    Calls Tryz.prog 32 #[treeV T, treeV U] w fun e w' => e = .returned (.bool (sameE (entsT T) (entsT U))) ∧ Ext w w' := by
  obtain ⟨p, hp⟩ := rootV_ptr T
  obtain ⟨q, hq⟩ := rootV_ptr U
  have hil : ∀ W, Ext w W → Calls Tryz.prog 31 #[.agg #[.pointer p], .agg #[.pointer q]] W fun e w' => e = .returned (.bool (decide (p = q))) ∧ Ext W w' := fun W hW => is_any W p q ((hT.leads hp).ext hW) ((hU.leads hq).ext hW)
  have hlT : ∀ W, Ext w W → Calls Tryz.prog 19 #[.agg #[.pointer p]] W fun e w' => e = .returned (.int .i64 (entsT T).length) ∧ Ext W w' := fun W hW => by
    have := treeLen_any (fun b hb => Nat.lt_of_lt_of_le (hF b hb) hW.size) (hT.agree (hW.agree hF))
    rwa [treeV, hp] at this
  have hlU : ∀ W, Ext w W → Calls Tryz.prog 19 #[.agg #[.pointer q]] W fun e w' => e = .returned (.int .i64 (entsT U).length) ∧ Ext W w' := fun W hW => by
    have := treeLen_any (fun b hb => Nat.lt_of_lt_of_le (hF' b hb) hW.size) (hU.agree (hW.agree hF'))
    rwa [treeV, hq] at this
  have heT : ∀ W, Ext w W → Calls Tryz.prog 30 #[.agg #[.pointer p]] W (EntriesPost (entsT T) W) := fun W hW => by
    have := treeEntries_any (fun b hb => Nat.lt_of_lt_of_le (hF b hb) hW.size) (hT.agree (hW.agree hF)) ok hl
    rwa [treeV, hp] at this
  have heU : ∀ W, Ext w W → Calls Tryz.prog 30 #[.agg #[.pointer q]] W (EntriesPost (entsT U) W) := fun W hW => by
    have := treeEntries_any (fun b hb => Nat.lt_of_lt_of_le (hF' b hb) hW.size) (hU.agree (hW.agree hF')) ok' hl'
    rwa [treeV, hq] at this
  have hdet : p = q → sameE (entsT T) (entsT U) = true := fun e => by
    rw [hT.det hU (by rw [hp, hq, e]), sameE_refl]
  rw [treeV, treeV, hp, hq]
  have HIL := Lib.hid hil
  have HLT := Lib.hid hlT
  have HLU := Lib.hid hlU
  have HET := Lib.hid heT
  have HEU := Lib.hid heU
  have HDET := Lib.hid hdet
  clear hil hlT hlU heT heU hdet hp hq hF hF' hT hU ok ok' hl hl'
  obtain ⟨r, hr⟩ : ∃ r, sameE (entsT T) (entsT U) = r := ⟨_, rfl⟩
  have HR := Lib.hid hr
  rw [hr]
  clear hr
  by_cases hpq : p = q
  · obtain rfl : r = true := by rw [← HR.out]; exact HDET.out hpq
    subst hpq
    clear HIL
    go_enter Tryz.func32, Tryz.ntmps32
    go_wp2_with fail
    generalize hW0 : World.alloc (World.alloc _ _) _ = W0
    obtain ⟨hx0, hz0, hb0, hb1⟩ := two_blocks w _ _ _ _ W0 hW0
    clear hW0
    refine (is_same W0 p).mono ?_
    rintro e w1 ⟨rfl, hx⟩
    go_wp2_with fail
    go_ret
    exact ⟨rfl, hx0.trans hx⟩
  · have hd : decide (p = q) = false := decide_eq_false hpq
    rw [hd] at HIL
    clear hd
    go_enter Tryz.func32, Tryz.ntmps32
    go_wp2_with fail
    generalize hW0 : World.alloc (World.alloc _ _) _ = W0
    obtain ⟨hx0, hz0, hb0, hb1⟩ := two_blocks w _ _ _ _ W0 hW0
    clear hW0
    refine (HIL.out _ hx0).mono ?_
    rintro e w1 ⟨rfl, hx1⟩
    have HX1 := Lib.hid (hx0.trans hx1)
    have hbp := hb0.ext hx1
    have hbq := hb1.ext hx1
    have HSS := Lib.hid (show ∀ W, Ext w1 W → W.cell? ⟨w.heap.size, 0, none⟩ = some (.pointer p) ∧ W.cell? ⟨w.heap.size + 1, 0, none⟩ = some (.pointer q) from fun W hW => ⟨(hbp.ext hW).cell 0, (hbq.ext hW).cell 0⟩)
    clear hx0 hx1 hb0 hb1 hbp hbq
    by_cases hlen : (entsT T).length = (entsT U).length
    · have hlb : ((entsT U).length : Int) = ((entsT U).length : Int) := rfl
      rw [hlen] at HLT
      go_wp2_with fail
      refine wp_region_held_drew (S := (fun w' => Ext w1 w')) (by kernel_rfl) (((Ext.refl w1).drew)) (fun hHeld => ?_)
      refine heldT 0 (some 8) HSS hHeld ?_
      refine heldT 2 (some 10) HSS hHeld ?_
      refine held_call (i := 1) (by kernel_rfl) rfl (by rfl) (fun K hK => ?_)
      go_simp
      (refine (HLT.out _ (HX1.out.trans hHeld)).mono ?_; rintro e wa ⟨rfl, hxa⟩)
      refine hK.out _ _ (hHeld.trans hxa) (fun hHeld => ?_)
      clear hK K
      try simp only [Act.put, List.setIfInBounds_toArray, List.set_cons_zero, List.set_cons_succ]
      refine held_call (i := 3) (by kernel_rfl) rfl (by rfl) (fun K hK => ?_)
      go_simp
      (refine (HLU.out _ (HX1.out.trans hHeld)).mono ?_; rintro e wb ⟨rfl, hxb⟩)
      refine hK.out _ _ (hHeld.trans hxb) (fun hHeld => ?_)
      clear hK K
      try simp only [Act.put, List.setIfInBounds_toArray, List.set_cons_zero, List.set_cons_succ]
      refine heldT 4 (some 12) HSS hHeld ?_
      refine heldT 5 (some 13) HSS hHeld ?_
      refine heldT 6 (some 14) HSS hHeld ?_
      refine heldT 8 (some 16) HSS hHeld ?_
      refine held_call (i := 7) (by kernel_rfl) rfl (by rfl) (fun K hK => ?_)
      go_simp
      (refine (HET.out _ (HX1.out.trans hHeld)).mono ?_; rintro e wc ⟨sc, yc, rfl, hyc, hoc, hxc⟩; have HYC := Lib.hid hyc; have HOC := Lib.hid hoc; clear hyc hoc)
      refine hK.out _ _ (hHeld.trans hxc) (fun hHeld => ?_)
      clear hK K
      try simp only [Act.put, List.setIfInBounds_toArray, List.set_cons_zero, List.set_cons_succ]
      refine held_call (i := 9) (by kernel_rfl) rfl (by rfl) (fun K hK => ?_)
      go_simp
      (refine (HEU.out _ (HX1.out.trans hHeld)).mono ?_; rintro e we ⟨se, ye, rfl, hye, hoe, hxe⟩; have hef := equalFunc_any ((HOC.out.es.mono (G := Lt wc.heap.size) fun i hi => hi.2).ext hxe) (hoe.es.mono (G := Lt we.heap.size) fun i hi => hi.2); rw [hye, HYC.out, HR.out] at hef; have HEF := Lib.hid hef; clear hye hoe hef)
      refine hK.out _ _ (hHeld.trans hxe) (fun hHeld => ?_)
      clear hK K
      try simp only [Act.put, List.setIfInBounds_toArray, List.set_cons_zero, List.set_cons_succ]
      refine held_call (i := 10) (by kernel_rfl) rfl (by rfl) (fun K hK => ?_)
      go_simp
      (refine HEF.out.mono ?_; rintro e wf ⟨rfl, hxf⟩)
      refine hK.out _ _ (hHeld.trans hxf) (fun hHeld => ?_)
      clear hK K
      try simp only [Act.put, List.setIfInBounds_toArray, List.set_cons_zero, List.set_cons_succ]
      refine heldT 11 (some 19) HSS hHeld ?_
      refine heldT 12 (some 4) HSS hHeld ?_
      refine wpAnyH_done (by kernel_rfl) ?_ _
      have HX := Lib.hid (HX1.out.trans hHeld)
      clear hHeld
      go_wp2_with fail
      go_ret
      exact ⟨rfl, HX.out⟩
    · obtain rfl : r = false := by rw [← HR.out]; exact sameE_ne hlen
      have hlb : (((entsT T).length : Int) == ((entsT U).length : Int)) = false := beq_eq_false_iff_ne.2 (by omega)
      clear hlen
      go_wp2_with fail
      refine wp_region_held_drew (S := (fun w' => Ext w1 w')) (by kernel_rfl) (((Ext.refl w1).drew)) (fun hHeld => ?_)
      refine heldT 0 (some 8) HSS hHeld ?_
      refine heldT 2 (some 10) HSS hHeld ?_
      refine held_call (i := 1) (by kernel_rfl) rfl (by rfl) (fun K hK => ?_)
      go_simp
      (refine (HLT.out _ (HX1.out.trans hHeld)).mono ?_; rintro e wa ⟨rfl, hxa⟩)
      refine hK.out _ _ (hHeld.trans hxa) (fun hHeld => ?_)
      clear hK K
      try simp only [Act.put, List.setIfInBounds_toArray, List.set_cons_zero, List.set_cons_succ]
      refine held_call (i := 3) (by kernel_rfl) rfl (by rfl) (fun K hK => ?_)
      go_simp
      (refine (HLU.out _ (HX1.out.trans hHeld)).mono ?_; rintro e wb ⟨rfl, hxb⟩)
      refine hK.out _ _ (hHeld.trans hxb) (fun hHeld => ?_)
      clear hK K
      try simp only [Act.put, List.setIfInBounds_toArray, List.set_cons_zero, List.set_cons_succ]
      refine heldT 4 (some 12) HSS hHeld ?_
      refine heldT 5 (some 13) HSS hHeld ?_
      refine heldO 6 (some 14) hHeld ?_
      refine heldO 7 (some 15) hHeld ?_
      refine heldO 8 (some 16) hHeld ?_
      refine heldO 9 (some 17) hHeld ?_
      refine heldO 10 (some 18) hHeld ?_
      refine heldT 11 (some 19) HSS hHeld ?_
      refine heldT 12 (some 4) HSS hHeld ?_
      refine wpAnyH_done (by kernel_rfl) ?_ _
      have HX := Lib.hid (HX1.out.trans hHeld)
      clear hHeld
      go_wp2_with fail
      go_ret
      exact ⟨rfl, HX.out⟩
end Go.Proofs.YtechahocffcbpaaGreatDoor
namespace Go.Proofs.YtechahocffcbpaaGreatDoor
open Go.RowKit Go.Maps Go.Shelf
set_option linter.unusedVariables false
set_option linter.unusedSimpArgs false
theorem delE_leO : ∀ (es : List Ent) (k : ByteArray), (delE es k).length ≤ es.length
  | [], k => by simp [delE]
  | e :: r, k => by
    have := delE_leO r k
    unfold delE
    repeat' split
    all_goals simp only [List.length_cons]
    all_goals omega
theorem comE_len (B : List Ent) : ∀ (C : Slots) (t : List Ent), (comE B C t).length ≤ t.length + C.length
  | [], t => by simp [comE]
  | (k, some v) :: r, t => by
    rw [comE]
    have h1 := comE_len B r
    have h2 := insE_len t k v
    split
    · have := h1 t; rw [List.length_cons]; omega
    · have := h1 (insE t k v); rw [List.length_cons]; omega
  | (k, none) :: r, t => by
    rw [comE]
    have h1 := comE_len B r
    have h2 := delE_leO t k
    split
    · have := h1 (delE t k); rw [List.length_cons]; omega
    · have := h1 t; rw [List.length_cons]; omega
section
variable {w W : World} {B O : Nat} {T : RT} {s1 s2 : Sl} {d : OD} {ts : List TM} {ms : List Nat}
theorem mk_put (h : MkI w B O T s1 s2 d ts ms W) (hn : d.us.length ≤ 1000000) {k : ByteArray} (hk : k.size ≤ maxLen) {v : Val} {sl so : Sl} (hv : RV W (Lt W.heap.size) v sl so) (hc : cntV v ≤ 1100000) (hL : LibQ W) :
    Calls Tryz.prog 10 #[.pointer (some ⟨O, 0, none⟩), .string k, aggV v sl so] W fun e w' => ∃ c d', e = .returned (.int .i64 c) ∧ MkI w B O T s1 s2 d' ts ms w' ∧ d'.us.length ≤ d.us.length + 1 ∧ Sb (OvB O d) W w' :=
  (put_anyO h.ov (fun b hb => (h.rows_lt hb).2) hn hk hv hc hL).mono fun e w' hp => by
    obtain ⟨rfl, (⟨-, sl, so, mb, s, ht⟩ | ⟨-, hn⟩)⟩ := hp
    · exact ⟨_, _, rfl, h.step ht, by show (d.us ++ _).length ≤ _; simp, ht.sb⟩
    · exact ⟨_, _, rfl, h.go hn, Nat.le_succ _, hn.any _⟩
theorem mk_del (h : MkI w B O T s1 s2 d ts ms W) (hn : d.us.length ≤ 1000000) (hl : (entsT T).length ≤ 1000000) {k : ByteArray} (hk : k.size ≤ maxLen) :
    Calls Tryz.prog 21 #[.pointer (some ⟨O, 0, none⟩), .string k] W fun e w' => ∃ c d', e = .returned (.bool c) ∧ MkI w B O T s1 s2 d' ts ms w' ∧ d'.us.length ≤ d.us.length + 1 ∧ Sb (OvB O d) W w' :=
  (delete_ov h.ov (fun b hb => (h.rows_lt hb).2) hn (by rw [h.below]; exact hl) hk).mono fun e w' hp => by
    obtain ⟨rfl, (⟨-, hn⟩ | ⟨-, mb, s, ht⟩)⟩ := hp
    · exact ⟨_, _, rfl, h.go hn, Nat.le_succ _, hn.any _⟩
    · exact ⟨_, _, rfl, h.step ht, by show (d.us ++ _).length ≤ _; simp, ht.sb⟩
theorem mk_commit (h : MkI w B O T s1 s2 d ts ms W) (hn : d.us.length ≤ 100000) (hl : (entsT T).length ≤ 100000) :
    Calls Tryz.prog 12 #[.pointer (some ⟨O, 0, none⟩)] W fun e w' => ∃ T', e = .returned (treeV T') ∧ TMok w' s1 s2 O T d ⟨T', d.us.length, d.C⟩ ∧ Nw W w' :=
  (commit_ov h.ov (by have := h.ov.few; rw [h.below]; omega)).mono fun e w' hp => by
    obtain ⟨T', rfl, hok, hT, he, hn, -⟩ := hp
    refine ⟨T', rfl, ⟨hok, hT.mono fun b hb => ?_, h.ov.last, Nat.le_refl _, by rw [he, h.below]⟩, hn⟩
    rcases hb with hb | ⟨h1, h2⟩
    · exact ⟨Nat.lt_of_lt_of_le hb.1 hn.size, hb.2⟩
    · exact ⟨h2, fun ho => by have := h.ov.own_lt ho; omega, fun hr => by have := (h.rows_lt hr).2; omega⟩
structure MkB (w : World) (O : Nat) (T : RT) (s1 s2 : Sl) (d d2 : OD) (t : TM) (W w' : World) : Prop where
  ov : OvAt (RwH s1 s2) w' O d2
  below : d2.T = T
  us : d2.us.length = t.m
  C : d2.C = t.C
  ok : OkR t.T
  tree : IsT w' (Lt w'.heap.size) t.T
  ents : entsT t.T = comE (entsT T) (optA t.C) (entsT T)
  sb : Sb (OvB O d) W w'
  nw : Nw w w'
theorem mk_back (h : MkI w B O T s1 s2 d ts ms W) (hn : d.us.length ≤ 1000000) {t : TM} (ht : t ∈ ts) :
    Calls Tryz.prog 20 #[.pointer (some ⟨O, 0, none⟩), .int .i64 (t.m : Int)] W fun e w' => e = .returned (.int .i64 0) ∧ ∃ d2, MkB w O T s1 s2 d d2 t W w' :=
  (back_ov h.ov hn (h.items t ht).le).mono fun e w' hp => by
    obtain ⟨rfl, hto⟩ := hp
    have hi := h.items t ht
    have hC := h.ov.hist.back h.ov.last (d.us.length - t.m) t.m (by have := hi.le; omega)
    refine ⟨rfl, _, hto.at_, h.below, by show (d.us.take t.m).length = _; rw [List.length_take]; have := hi.le; omega, ?_, hi.ok, (hi.tree.agree fun b hb => hto.sb.block b hb.1 hb.2.1).mono fun b hb => Nat.lt_of_lt_of_le hb.1 hto.sb.size, hi.ents, hto.sb, h.nw.comp hto.sb fun i hi e => by have := h.new i e; omega⟩
    have := hi.at_
    rw [hC] at this
    injection this
theorem mb_same {d2 : OD} {t : TM} {w5 w7 : World} (h : MkB w O T s1 s2 d d2 t W w5) (hm : t.m ≤ 100000) (hl : (entsT T).length ≤ 100000) {T' : RT} (hok : OkR T') {F : Nat → Prop} (hT : IsT w7 F T') (hF : ∀ b, F b → b < w7.heap.size) (he : entsT T' = comE (entsT d2.T) (optA d2.C) (entsT d2.T)) (hn : Nw w5 w7) :
    Calls Tryz.prog 32 #[treeV T', treeV t.T] w7 fun e w' => e = .returned (.bool true) ∧ Ext w7 w' := by
  have e1 : entsT T' = entsT t.T := by rw [he, h.ents, h.below, h.C]
  have hlen : (entsT t.T).length ≤ 1000000 := by
    rw [h.ents]
    have h1 := comE_len (entsT T) (optA t.C) (entsT T)
    have h2 : (optA t.C).length ≤ t.m := by
      unfold optA
      rw [List.length_map, ← h.C, ← h.us]; exact h.ov.few
    omega
  have hs := treeSame_any (T := T') (U := t.T) hF (fun b hb => hb) hT ((h.tree.agree (Nw.agree hn fun _ h => h)).mono fun b hb => Nat.lt_of_lt_of_le hb hn.size) hok h.ok (by rw [e1]; exact hlen) hlen
  rw [e1, sameE_refl] at hs
  exact hs
end
theorem num12_any (w : World) (n : Int) : Calls Tryz.prog 9 #[.int .i64 n] w fun e w' => e = .returned (numA n) ∧ Ext w w' := by
  go_enter Tryz.func9, Tryz.ntmps9
  go_wp2_with fail
  refine bodyPost_ret (v := numA n) (by simp [results, Tryz.results9, go_sem]; rfl) rfl ?_
  exact ⟨rfl, (Ext.refl w).alloc _ _⟩
theorem same12_refl {w : World} {F F' : Nat → Prop} {s s' : Sl} {xs : List ByteArray} (h : Rd w F 1 s xs.length (xs.map .string)) (hF : ∀ b, F b → b < w.heap.size) (h' : Rd w F' 1 s' xs.length (xs.map .string)) (hF' : ∀ b, F' b → b < w.heap.size) (hn : xs.length ≤ 1000000000) :
    Calls Tryz.prog 28 #[.slice s.a xs.length s.c, .slice s'.a xs.length s'.c] w fun e w' => e = .returned (.bool true) ∧ Ext w w' := by
  obtain ⟨b, o, h1, -, h3⟩ := h
  obtain ⟨b', o', h1', -, h3'⟩ := h'
  have H1 := Lib.hid h1
  have H1' := Lib.hid h1'
  have H3 := Lib.hid h3
  have H3' := Lib.hid h3'
  have HF := Lib.hid hF
  have HF' := Lib.hid hF'
  have hne : (((xs.length : Int)) != ((xs.length : Int))) = false := by simp
  clear h1 h1' h3 h3' hF hF'
  go_enter Tryz.func28, Tryz.ntmps28
  go_wp2_with fail
  go_loopw [5] (fun q wr => ∃ j : Nat, q = .int .i64 j ∧ j ≤ xs.length ∧ Ext w wr) (fun q _ => xs.length - (intOf q).toNat)
  case atStart => exact ⟨0, rfl, Nat.zero_le _, Ext.refl w⟩
  case round =>
    obtain ⟨j, rfl, hjl, hx⟩ := hrel
    by_cases hlt : j < xs.length
    · have g1 : (j : Int) < (xs.length : Int) := by omega
      obtain ⟨x, hxx⟩ : ∃ x, xs[j]? = some x := ⟨_, List.getElem?_eq_getElem hlt⟩
      obtain ⟨e1, hc, hcm⟩ := H1.out.eq (by omega)
      obtain ⟨e1', hc', hcm'⟩ := H1'.out.eq (by omega)
      have lg := HF.out b (H1.out.fits (by omega))
      have lg' := HF'.out b' (H1'.out.fits (by omega))
      obtain ⟨sa, sc⟩ := s
      obtain ⟨sa', sc'⟩ := s'
      dsimp only at e1 e1' hc hc' hcm hcm'
      subst e1 e1'
      have c0 : wr.cell? ⟨b, o + j, none⟩ = some (.string x) := (hx.cell lg).trans (H3.out j _ (by rw [List.getElem?_map, hxx]; rfl))
      have c0' : wr.cell? ⟨b', o' + j, none⟩ = some (.string x) := (hx.cell lg').trans (H3'.out j _ (by rw [List.getElem?_map, hxx]; rfl))
      have hxe : (x.toList != x.toList) = false := by simp
      have HX := Lib.hid hx
      clear hx hxx lg lg'
      go_wp2_with fail
      go_quiet (fail)
      go_wp2_with fail
      go_roundw
      case rel => exact ⟨j + 1, by go_num, hlt, HX.out.drewN _⟩
      case measure => simp [intOf]; omega
    · obtain rfl : j = xs.length := by omega
      have HX := Lib.hid hx
      clear hx
      go_wp2_with fail
      go_ret
      exact ⟨rfl, HX.out⟩
theorem rv_numO (w : World) (F : Nat → Prop) {n : Int} (wn : (Lit.int .i64 n).wf = true) : RV w F (numV n) Sl.none Sl.none := RV.flat _ _ _ _ _ _ (by decide) wn (by decide)
theorem tree_oneO {w : World} {g : Nat} {a : ByteArray} {n : Int} (ha : a.size ≤ maxLen) (wn : (Lit.int .i64 n).wf = true)
    (hb : Blk w g 64 #[.string a, .int .i64 3, .bool false, .int .i64 n, .string ByteArray.empty, .slice none 0 0, .slice none 0 0]) :
    Calls Tryz.prog 24 #[.slice (some ⟨g, 0, none⟩) 1 1] w fun e w' => ∃ (T : RT), e = .returned (treeV T) ∧ OkR T ∧ entsT T = [(a, numV n)] ∧ IsT w' (In w.heap.size w'.heap.size) T ∧ Ext w w' := by
  have es : ES w (Lt w.heap.size) ⟨some ⟨g, 0, none⟩, 1⟩ [⟨a, numV n, Sl.none, Sl.none⟩] :=
    ⟨(Rd.block (cs := flatE [⟨a, numV n, Sl.none, Sl.none⟩]) (n := 1) (size := 7) (by simp [flatE, LE.cells]; exact hb) (by decide) (by simp [flatE, LE.cells])).mono fun i hi => by subst hi; exact hb.lt, fun z hz => by
      obtain rfl := List.mem_singleton.1 hz; exact ⟨rv_numO _ _ wn, ha⟩, by simp⟩
  refine (build_any es (show 1 ≤ 100000 by omega)).mono ?_
  rintro e w' ⟨T, rfl, hbt, hT, hx⟩
  exact ⟨T, rfl, hbt.both.1, by rw [hbt.both.2]; show putAll [] [(a, numV n)] = _; simp [putAll, insE], hT, hx⟩
theorem OvTo.since {H : Nat → Prop} {w0 w w' : World} {O : Nat} {d d' : OD} (h : OvTo H w O d d' w') (k : Nw w0 w) (hb : ∀ b, OvB O d b → w0.heap.size ≤ b) : Nw w0 w' ∧ ∀ b, OvB O d' b → w0.heap.size ≤ b :=
  ⟨k.comp h.sb fun i hi e => by have := hb i e; omega, fun b e => (h.new b e).elim (hb b) fun hh => Nat.le_trans k.size hh⟩
abbrev kAo : ByteArray := ⟨#[97]⟩
abbrev kBo : ByteArray := ⟨#[98]⟩
abbrev kEo : ByteArray := ⟨#[]⟩
theorem begins_all (k : ByteArray) : beginsO kEo k = true := by
  have h : (ByteArray.mk #[]).toList = [] := by rw [ByteArray.toList_eq]
  show (ByteArray.toList _).isPrefixOf _ = true
  rw [h]; rfl
theorem may_bo : mayK kBo = 0 := by decide +kernel
theorem now_b {d : OD} {s : SV} (hT : entsT d.T = [(kAo, numV 1)]) (hC : d.C = putA [] kBo s) : d.now kAo = some (numV 1) := by
  rw [now_none (by rw [hC, getA_put, if_neg (by decide)]; rfl), hT]
  simp [getE]
theorem pre_b {d : OD} {s z : SV} (hT : entsT d.T = [(kAo, numV 1)]) (hC : d.C = putA (putA [] kBo s) kAo z) (hs : s.has = true) (hz : z.has = false) {ks : List ByteArray} (hr : ks.Pairwise fun x y => klt x y = true)
    (hm : ∀ k, k ∈ ks ↔ (beginsO kEo k = true ∧ (d.now k).isSome = true)) : ks = [kBo] := by
  refine rise_ext hr (List.pairwise_singleton _ _) fun k => ?_
  rw [hm k, begins_all]
  have hg : getA d.C k = if k = kAo then some z else if k = kBo then some s else none := by rw [hC, getA_put, getA_put]; rfl
  by_cases h1 : k = kAo
  · subst h1
    rw [if_pos rfl] at hg
    rw [now_some hg]
    simp [SV.opt, hz]
  · rw [if_neg h1] at hg
    by_cases h2 : k = kBo
    · subst h2
      rw [if_pos rfl] at hg
      rw [now_some hg]
      simp [SV.opt, hs]
    · rw [if_neg h2] at hg
      rw [now_none hg, hT]
      simp [getE, h1, h2]
      exact fun h => h1 h.symm
theorem pre_a {d : OD} (hT : entsT d.T = [(kAo, numV 1)]) (hC : d.C = []) {ks : List ByteArray} (hr : ks.Pairwise fun x y => klt x y = true)
    (hm : ∀ k, k ∈ ks ↔ (beginsO kEo k = true ∧ (d.now k).isSome = true)) : ks = [kAo] := by
  refine rise_ext hr (List.pairwise_singleton _ _) fun k => ?_
  rw [hm k, begins_all, now_none (by rw [hC]; rfl), hT]
  by_cases h1 : k = kAo
  · subst h1; simp [getE]
  · simp [getE, h1]
    exact fun h => h1 h.symm
theorem rd_one (w : World) (k : ByteArray) : Rd (w.alloc (.cells #[.string k] 9)) (fun b => b = w.heap.size) 1 ⟨some ⟨w.heap.size, 0, none⟩, 1⟩ 1 [.string k] :=
  Rd.block (cs := [.string k]) (n := 1) (size := 1) (Blk.new w _ _) (by decide) rfl
theorem put_bo {w : World} {O : Nat} {T : RT} (hL : Lib0 w) (h0 : OvAt (fun _ => False) w O (od0 T)) : Calls Tryz.prog 10 #[.pointer (some ⟨O, 0, none⟩), .string kBo, numA 2] w (PutPostO (fun _ => False) O (od0 T) kBo (numV 2) w) := by
  have hmay : ∀ W, Nw w W → Calls Tryz.prog 33 #[.string kBo] W fun e w' => e = .returned (.int .i64 0) ∧ Nw W w' := fun W hW => by
    have h := keysMay_any (w := W) (k := kBo) (by decide) (hL.nw hW)
    rw [may_bo] at h
    exact h
  have hfit : ∀ W, Nw w W → Calls Tryz.prog 34 #[numA 2] W fun e w' => e = .returned (.int .i64 0) ∧ Nw W w' := fun W hW =>
    fits_int W 2 fun W' hW' => (hL.nw (hW.trans hW')).fmt _ (G5.refl _) 2 (by decide) (by decide)
  have hl : (od0 T).us.length ≤ 1000000 := Nat.zero_le _
  have hk : kBo.size ≤ maxLen := by decide
  have hv : RV w (Lt w.heap.size) (numV 2) Sl.none Sl.none := rv_numO _ _ (by decide)
  exact put_ov (v := numV 2) (sl := Sl.none) (so := Sl.none) h0 (fun b h => h.elim) hl hk hv hmay hfit
theorem known12 {w : World} (hL : Lib0 w) : Calls Tryz.prog 14 #[] w fun e w' => e = .returned (.bool true) ∧ Nw w w' := by
  have HL := Lib.hid hL
  clear hL
  go_enter Tryz.func14, Tryz.ntmps14
  go_wp2_with fail
  refine (num12_any _ 1).mono ?_
  rintro e w1 ⟨rfl, hx1⟩
  have HX1 := Lib.hid hx1
  clear hx1
  go_wp2_with fail
  refine (tree_oneO (a := kAo) (n := 1) (by decide) (by decide) (Blk.new w1 _ _)).mono ?_
  rintro e w2 ⟨T, rfl, ok, he, hT, hx2⟩
  have hx02 := HX1.out.trans (((Ext.refl w1).alloc _ _).trans hx2)
  have hbg := begin_ov (H := fun _ => False) hT ok (fun b hb => ⟨hb.2, id⟩) (fun b h => h.elim)
  obtain ⟨p, hp⟩ := rootV_ptr T
  rw [treeV, hp] at hbg
  rw [treeV, hp]
  have HX2 := Lib.hid hx02
  have HBG := Lib.hid hbg
  have HE := Lib.hid he
  clear hx02 hbg he ok hT hx2 HX1 hp
  go_wp2_with fail
  refine HBG.out.mono ?_
  rintro e w3 ⟨O, rfl, hO, h0, hx3⟩
  have hn3 : Nw w w3 := Nw.of (HX2.out.trans hx3)
  have ho3 : ∀ b, OvB O (od0 T) b → w.heap.size ≤ b := fun b hb => by
    have := HX2.out.size
    rcases hb with rfl | hb | hb
    · omega
    · cases hb
    · cases hb
  have hmk : Calls Tryz.prog 18 #[.pointer (some ⟨O, 0, none⟩)] w3 fun e w' => e = .returned (.int .i64 0) ∧ Ext w3 w' := mark_ov h0
  have HN3 := Lib.hid hn3
  have HO3 := Lib.hid ho3
  have HMK := Lib.hid hmk
  have H0 := Lib.hid h0
  clear hx3 h0 hn3 ho3 hmk HBG hO HX2
  go_wp2_with fail
  refine HMK.out.mono ?_
  rintro e w4 ⟨rfl, hx4⟩
  have HX4 := Lib.hid hx4
  clear hx4 HMK
  go_wp2_with fail
  refine (num12_any _ 2).mono ?_
  rintro e w5 ⟨rfl, hx5⟩
  have hx35 := HX4.out.trans hx5
  have hn5 := HN3.out.trans (Nw.of hx35)
  have hput : Calls Tryz.prog 10 #[.pointer (some ⟨O, 0, none⟩), .string kBo, numA 2] w5 (PutPostO (fun _ => False) O (od0 T) kBo (numV 2) w5) :=
    put_bo (HL.out.nw hn5) (H0.out.ext hx35)
  have HN5 := Lib.hid hn5
  have HPUT := Lib.hid hput
  clear hx5 hx35 hn5 hput HX4 H0 HL HN3
  go_wp2_with fail
  refine HPUT.out.mono ?_
  rintro e w6 ⟨rfl, sl, so, mb, s, hto⟩
  obtain ⟨hn6, ho6⟩ := hto.since HN5.out HO3.out
  obtain ⟨d1, hd1⟩ : ∃ d, d = (od0 T).step kBo ⟨true, numV 2, sl, so⟩ mb s := ⟨_, rfl⟩
  have hT1 : entsT d1.T = [(kAo, numV 1)] := by rw [hd1]; exact HE.out
  have hC1 : d1.C = putA [] kBo ⟨true, numV 2, sl, so⟩ := by rw [hd1]; rfl
  have hl1 : d1.us.length = 1 := by rw [hd1]; rfl
  have h6 := hto.at_
  rw [← hd1] at h6 ho6
  have hdel := delete_ov h6 (fun b h => h.elim) (by rw [hl1]; decide) (by rw [hT1]; decide) (k := kAo) (by decide)
  unfold DelPostO at hdel
  rw [now_b hT1 hC1] at hdel
  have HN6 := Lib.hid hn6
  have HO6 := Lib.hid ho6
  have HDEL := Lib.hid hdel
  have HC1 := Lib.hid hC1
  have HT1 := Lib.hid hT1
  have HL1 := Lib.hid hl1
  clear hto hn6 ho6 hd1 hT1 hC1 hl1 h6 hdel HPUT HN5 HO3 HE
  go_wp2_with fail
  refine HDEL.out.mono ?_
  rintro e w7 ⟨rfl, ⟨hf, -⟩ | ⟨-, mb2, s2, hto⟩⟩
  · cases hf
  obtain ⟨hn7, ho7⟩ := hto.since HN6.out HO6.out
  obtain ⟨d2, hd2⟩ : ∃ d, d = d1.step kAo zeroSV mb2 s2 := ⟨_, rfl⟩
  have hT2 : entsT d2.T = [(kAo, numV 1)] := by rw [hd2]; exact HT1.out
  have hC2 : d2.C = putA (putA [] kBo ⟨true, numV 2, sl, so⟩) kAo zeroSV := by rw [hd2, ← HC1.out]; rfl
  have hl2 : d2.us.length = 2 := by rw [hd2]; show (d1.us ++ [_]).length = 2; rw [List.length_append, HL1.out]; rfl
  have h7 := hto.at_
  rw [← hd2] at h7 ho7
  have hpre := prefix_ov h7 (by rw [hT2]; decide) (by rw [hl2]; decide) (p := kEo) (by decide)
  have HN7 := Lib.hid hn7
  have HO7 := Lib.hid ho7
  have HPRE := Lib.hid hpre
  have HC2 := Lib.hid hC2
  have HT2 := Lib.hid hT2
  have HL2 := Lib.hid hl2
  have H7 := Lib.hid h7
  clear hto hn7 ho7 hd2 hT2 hC2 hl2 h7 hpre HDEL HN6 HO6 HC1 HT1 HL1
  go_wp2_with fail
  refine HPRE.out.mono ?_
  rintro e w8 ⟨sp, ks, rfl, hn8, hrd, hri, hm⟩
  obtain rfl := pre_b HT2.out HC2.out rfl rfl hri hm
  have h8 := H7.out.nw hn8
  have hbk : Calls Tryz.prog 20 #[.pointer (some ⟨O, 0, none⟩), .int .i64 0] w8 (BackPost (fun _ => False) O d2 0 w8) := back_ov h8 (by rw [HL2.out]; decide) (m := 0) (Nat.zero_le _)
  have HN8 := Lib.hid (HN7.out.trans hn8)
  have HRD := Lib.hid hrd
  have HBK := Lib.hid hbk
  have HB8 := Lib.hid (fun b (hb : In w7.heap.size w8.heap.size b) => (⟨fun e => by have := H7.out.own_lt e; have := hb.1; omega, hb.2⟩ : ¬ OvB O d2 b ∧ b < w8.heap.size))
  clear hn8 hrd hri hm h8 hbk HPRE HN7 H7 HC2 HL2
  go_wp2_with fail
  refine HBK.out.mono ?_
  rintro e w9 ⟨rfl, hto⟩
  obtain ⟨hn9, ho9⟩ := hto.since HN8.out HO7.out
  obtain ⟨d3, hd3⟩ : ∃ d : OD, d = ⟨d2.T, d2.mb, d2.s, d2.us.take 0, d2.Hs.take (0 + 1), backA d2.us d2.C 0⟩ := ⟨_, rfl⟩
  have h9 := hto.at_
  rw [← hd3] at h9
  have hl3 : d3.us.length = 0 := by rw [hd3]; rfl
  have hC3 : d3.C = [] := by
    have a := h9.h0
    have b := h9.last
    rw [hl3, a] at b
    exact (Option.some.inj b).symm
  have hT3 : entsT d3.T = [(kAo, numV 1)] := by rw [hd3]; exact HT2.out
  have hrd9 : Rd w9 (In w7.heap.size w8.heap.size) 1 sp 1 [.string kBo] := HRD.out.agree fun b hb => hto.sb.block b (HB8.out b hb).2 (HB8.out b hb).1
  have hsm : ∀ W, Nw w9 W → Calls Tryz.prog 28 #[.slice sp.a 1 sp.c, .slice (some ⟨W.heap.size, 0, none⟩) 1 1] (W.alloc (.cells #[.string kBo] 9)) fun e w' => e = .returned (.bool true) ∧ Ext (W.alloc (.cells #[.string kBo] 9)) w' := fun W hW =>
    same12_refl (xs := [kBo]) (s := sp) (s' := ⟨some ⟨W.heap.size, 0, none⟩, 1⟩) (hrd9.agree (Nw.agree (hW.trans (Nw.of ((Ext.refl W).alloc #[.string kBo] 9))) fun b hb => Nat.lt_of_lt_of_le (HB8.out b hb).2 hto.sb.size))
      (fun b hb => Nat.lt_of_lt_of_le (HB8.out b hb).2 (Nat.le_trans hto.sb.size (Nat.le_trans hW.size ((Ext.refl W).alloc #[.string kBo] 9).size))) (rd_one W kBo) (fun b hb => by rw [hb, World.size_alloc]; omega) (by decide)
  have hpre := fun W (hW : Nw w9 W) => prefix_ov (h9.nw hW) (by rw [hT3]; decide) (by rw [hl3]; decide) (p := kEo) (by decide)
  have HN9 := Lib.hid hn9
  have HSM := Lib.hid hsm
  have HPRE := Lib.hid hpre
  have HC3 := Lib.hid hC3
  have HT3 := Lib.hid hT3
  clear hto hn9 ho9 hd3 h9 hl3 hC3 hT3 hrd9 hsm hpre HBK HN8 HRD HO7 HB8 HT2
  go_wp2_with fail
  refine (HSM.out _ (Nw.of (Ext.refl _))).mono ?_
  rintro e w10 ⟨rfl, hx10⟩
  have HX10 := Lib.hid (((Ext.refl w9).alloc #[.string kBo] 9).trans hx10)
  clear hx10 HSM
  go_wp2_with fail
  refine (HPRE.out _ (Nw.of HX10.out)).mono ?_
  rintro e w11 ⟨sq, ks, rfl, hn11, hrd, hri, hm⟩
  obtain rfl := pre_a HT3.out HC3.out hri hm
  have hsm : Calls Tryz.prog 28 #[.slice sq.a 1 sq.c, .slice (some ⟨w11.heap.size, 0, none⟩) 1 1] (w11.alloc (.cells #[.string kAo] 9)) fun e w' => e = .returned (.bool true) ∧ Ext (w11.alloc (.cells #[.string kAo] 9)) w' :=
    same12_refl (xs := [kAo]) (s := sq) (s' := ⟨some ⟨w11.heap.size, 0, none⟩, 1⟩) (hrd.agree (Nw.agree (Nw.of ((Ext.refl w11).alloc #[.string kAo] 9)) fun b hb => hb.2))
      (fun b hb => by have := hb.2; rw [World.size_alloc]; omega) (rd_one w11 kAo) (fun b hb => by rw [hb, World.size_alloc]; omega) (by decide)
  have HN11 := Lib.hid ((HN9.out.trans (Nw.of HX10.out)).trans hn11)
  have HSM := Lib.hid hsm
  clear hn11 hrd hri hm hsm HPRE HX10 HN9 HC3 HT3
  go_wp2_with fail
  refine HSM.out.mono ?_
  rintro e w12 ⟨rfl, hx12⟩
  have HN12 := Lib.hid (HN11.out.trans (Nw.of (((Ext.refl w11).alloc #[.string kAo] 9).trans hx12)))
  clear hx12 HSM HN11
  go_wp2_with fail
  go_ret
  exact ⟨rfl, HN12.out⟩
end Go.Proofs.YtechahocffcbpaaGreatDoor
namespace Go.Proofs.YtechahocffcbpaaGreatDoor
open Go.RowKit
set_option linter.unusedVariables false
set_option linter.unusedSimpArgs false
section
variable {H : Type} {enc : TypeId × Value → H} {P : Program} {w : World} {held : Bool}
theorem bulk_all_get : ∀ {l : List (DataW H)} {i : Nat} {d : DataW H}, l[i]? = some d → Rows.uptoBulk d ≤ Rows.uptoBulkAll l
  | [], i, d, h => by simp at h
  | x :: l, 0, d, h => by
    have : x = d := by simpa using h
    subst this
    simp only [Rows.uptoBulkAll]; omega
  | x :: l, i + 1, d, h => by
    have := bulk_all_get (l := l) (i := i) (d := d) (by simpa using h)
    simp only [Rows.uptoBulkAll]; omega
theorem trod_rowsB {t e : TypeId} {C B fuel : Nat} {cs : List Value} {x : DataW H × List MemPlace} (ht : P.underlying t = some (.slice e)) (hC : P.cellsOf e = C) (hB : P.bytesOf e = B) (hC0 : 0 < C)
    (h : tr enc P w held fuel t cs = some x) (hw : WOk P t x.1) :
    ∃ (n len : Nat) (s : Sl) (b o : Nat) (es : List (DataW H)), fuel = n + 1 ∧ cs = [.slice s.a len s.c] ∧ SlAt (Lt w.heap.size) s len b o ∧ len * B ≤ 140737488351232 ∧ es.length = len ∧ Rows.uptoBulkAll es + 1 ≤ Rows.uptoBulk x.1 ∧
      ∀ i, i < len → ∃ cs' y, cs'.length = C ∧ (∀ j, j < C → w.cell? ⟨b, o + i * C + j, none⟩ = cs'[j]?) ∧ tr enc P w held n e cs' = some y ∧ WOk P e y.1 ∧ es[i]? = some y.1 := by
  rcases DataW.trod_slice ht h with ⟨rfl, rfl⟩ | ⟨a, len, cap, elems, rest, n, hfu, hcs, hx, -, hl, hm, hlen, hel, hsp, -⟩
  · cases fuel with
    | zero => simp [tr, DataW.trod] at h
    | succ n => exact ⟨n, 0, Sl.none, 0, 0, [], rfl, rfl, .nil _ _, by omega, rfl, by simp [Rows.uptoBulk, Rows.uptoBulkAll], fun i hi => by omega⟩
  · obtain ⟨n', len', s, b, o, hfu', hcs', hs, hby, he⟩ := trod_rows ht hC hB hC0 h hw
    subst hcs hx hfu
    obtain rfl : n = n' := by omega
    have hcs2 : Value.slice (some a) len cap = .slice s.a len' s.c := by simpa using hcs'
    injection hcs2 with e1 e2 e3
    subst e2
    refine ⟨n, len, s, b, o, elems.map (·.1), rfl, hcs', hs, hby, by rw [List.length_map]; exact hlen, by simp only [Rows.uptoBulk]; omega, fun i hi => ?_⟩
    obtain ⟨cs', y, hl', hc, ht', hw'⟩ := he i hi
    refine ⟨cs', y, hl', hc, ht', hw', ?_⟩
    have hE := hel i hi
    rw [List.getElem?_eq_getElem (by omega)] at hE
    obtain ⟨cs2, h1, h2⟩ := Option.bind_eq_some_iff.1 hE
    obtain ⟨-, hl1, hat1⟩ := World.cells?_some h1
    rw [hC] at hl1 hat1
    have hsa : s.a = some ⟨b, o, none⟩ := (hs.eq (by omega)).1
    rw [hsa] at e1
    obtain rfl : a = ⟨b, o, none⟩ := by injection e1
    have : cs2 = cs' := by
      refine List.ext_getElem? fun j => ?_
      by_cases hj : j < C
      · have := hat1 j hj
        rw [Go.WideShapes.add_plain, Go.WideShapes.add_plain] at this
        rw [← hc j hj, ← this]
      · rw [List.getElem?_eq_none (by omega), List.getElem?_eq_none (by omega)]
    subst this
    rw [List.getElem?_map, List.getElem?_eq_getElem (by omega)]
    have : some (elems[i]'(by omega)) = some y := by rw [← h2]; exact ht'
    simp only [Option.map_some]
    injection this with this
    rw [this]
theorem trod_fieldsB {t : TypeId} {fs : List Field} {fuel : Nat} {cs : List Value} {x : DataW H × List MemPlace} (ht : P.underlying t = some (.struct fs.toArray)) (h : tr enc P w held fuel t cs = some x) (hw : WOk P t x.1) :
    ∃ n ds, fuel = n + 1 ∧ cs.length = P.cellsOf t ∧ x.1 = .agg ds ∧ ∀ (i : Nat) (f : Field), fs[i]? = some f → ∃ y, tr enc P w held n f.type ((cs.drop f.offset).take (P.cellsOf f.type)) = some y ∧ WOk P f.type y.1 ∧ ds[i]? = some y.1 := by
  obtain ⟨xs, n, rfl, rfl, hl, hlen, hf⟩ := DataW.trod_struct ht h
  refine ⟨n, xs.map (·.1), rfl, hl, rfl, fun i f hi => ?_⟩
  have hw' : (DataW.weightsEach P (fs.map (·.type)) (xs.map (·.1))).all (· ≤ reachBytes) = true := by
    have := hw
    simpa [WOk, DataW.weights, ht] using this
  have hil : i < fs.length := (List.getElem?_eq_some_iff.1 hi).1
  have h1 := hf i f (by simpa using hi)
  have hxl : i < xs.length := by simp at hlen; omega
  rw [List.getElem?_eq_getElem hxl] at h1
  exact ⟨_, h1, weightsEach_at hw' i _ _ (by rw [List.getElem?_map, hi]; rfl) (by rw [List.getElem?_map, List.getElem?_eq_getElem hxl]; rfl), by rw [List.getElem?_map, List.getElem?_eq_getElem hxl]; rfl⟩
end
theorem bulk_pos {H : Type} (d : DataW H) : 1 ≤ Rows.uptoBulk d := by
  cases d with
  | lit l => cases l <;> simp [Rows.uptoBulk]
  | _ => simp [Rows.uptoBulk]
end Go.Proofs.YtechahocffcbpaaGreatDoor
