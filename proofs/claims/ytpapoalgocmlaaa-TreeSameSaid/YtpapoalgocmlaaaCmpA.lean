/- value.Compare, value.Same. -/
import Derived.Test.YtpapoalgocmlaaaCmpI
namespace Go.Proofs.Ytpapoalgocmlaaa
open Go.RowKit
set_option linter.unusedVariables false
set_option linter.unusedSimpArgs false
def boolN (b : Bool) : Int := if b then 1 else 0
theorem boolN_cmp (a b : Bool) : numI (boolN a) (boolN b) = boolI a b := by cases a <;> cases b <;> rfl
/-- The two boxes of Compare. -/
structure BxS (w : World) (b b' : Bool) (W : World) : Prop where
  ext : Ext w W
  b0 : ∃ v0 v2 v3 v4 v5, Blk W w.heap.size 49 #[v0, .bool b, v2, v3, v4, v5]
  b1 : ∃ v0 v2 v3 v4 v5, Blk W (w.heap.size + 1) 49 #[v0, .bool b', v2, v3, v4, v5]
theorem BxS.drew {w W : World} {b b' : Bool} (h : BxS w b b' W) : BxS w b b' W.drew := by
  obtain ⟨h1, ⟨a0, a2, a3, a4, a5, ha⟩, ⟨c0, c2, c3, c4, c5, hc⟩⟩ := h
  exact ⟨h1.drew, ⟨_, _, _, _, _, ha.ext ((Ext.refl W).drew)⟩, ⟨_, _, _, _, _, hc.ext ((Ext.refl W).drew)⟩⟩
theorem BxS.at0 {w W : World} {b b' : Bool} (h : BxS w b b' W) : ∃ u, W.cell? ⟨w.heap.size, 2, none⟩ = some u ∧ W.frozen? ⟨w.heap.size, 2, none⟩ = false ∧ w.heap.size < W.heap.size := by
  obtain ⟨h1, ⟨a0, a2, a3, a4, a5, ha⟩, -⟩ := h
  exact ⟨_, ha.cell 2, ha.frozen 2, ha.lt⟩
theorem BxS.at1 {w W : World} {b b' : Bool} (h : BxS w b b' W) : ∃ u, W.cell? ⟨w.heap.size + 1, 2, none⟩ = some u ∧ W.frozen? ⟨w.heap.size + 1, 2, none⟩ = false ∧ w.heap.size + 1 < W.heap.size := by
  obtain ⟨h1, -, ⟨a0, a2, a3, a4, a5, ha⟩⟩ := h
  exact ⟨_, ha.cell 2, ha.frozen 2, ha.lt⟩
theorem BxS.set0 {w W : World} {b b' : Bool} (h : BxS w b b' W) (v : Value) : BxS w b b' (W.setCell ⟨w.heap.size, 2, none⟩ v) := by
  obtain ⟨h1, ⟨a0, a2, a3, a4, a5, ha⟩, ⟨c0, c2, c3, c4, c5, hc⟩⟩ := h
  exact ⟨h1.setCell (p := ⟨w.heap.size, 2, none⟩) (Nat.le_refl _) v, ⟨_, _, _, _, _, ha.set_ 2 v⟩, ⟨_, _, _, _, _, ((St.refl (fun b => b = w.heap.size) W).set (p := ⟨w.heap.size, 2, none⟩) (.inr rfl) v).blk hc (by omega)⟩⟩
theorem BxS.set1 {w W : World} {b b' : Bool} (h : BxS w b b' W) (v : Value) : BxS w b b' (W.setCell ⟨w.heap.size + 1, 2, none⟩ v) := by
  obtain ⟨h1, ⟨a0, a2, a3, a4, a5, ha⟩, ⟨c0, c2, c3, c4, c5, hc⟩⟩ := h
  exact ⟨h1.setCell (p := ⟨w.heap.size + 1, 2, none⟩) (by simp) v, ⟨_, _, _, _, _, ((St.refl (fun b => b = w.heap.size + 1) W).set (p := ⟨w.heap.size + 1, 2, none⟩) (.inr rfl) v).blk ha (by omega)⟩, ⟨_, _, _, _, _, hc.set_ 2 v⟩⟩
theorem BxS.ends {w W : World} {b b' : Bool} (h : BxS w b b' W) (v v' : Value) : ((W.setCell ⟨w.heap.size, 2, none⟩ v).setCell ⟨w.heap.size + 1, 2, none⟩ v').cell? ⟨w.heap.size, 2, none⟩ = some v ∧ ((W.setCell ⟨w.heap.size, 2, none⟩ v).setCell ⟨w.heap.size + 1, 2, none⟩ v').cell? ⟨w.heap.size + 1, 2, none⟩ = some v' := by
  obtain ⟨h1, ⟨a0, a2, a3, a4, a5, ha⟩, -⟩ := h.set0 v
  obtain ⟨-, ⟨b0, b2, b3, b4, b5, hb⟩, ⟨c0, c2, c3, c4, c5, hc⟩⟩ := h
  have hc' := ((St.refl (fun b => b = w.heap.size) W).set (p := ⟨w.heap.size, 2, none⟩) (.inr rfl) v).blk hc (by omega)
  have hb' := hb.set_ 2 v
  have hb2 := ((St.refl (fun b => b = w.heap.size + 1) (W.setCell ⟨w.heap.size, 2, none⟩ v)).set (p := ⟨w.heap.size + 1, 2, none⟩) (.inr rfl) v').blk hb' (by omega)
  exact ⟨hb2.cell 2, (hc'.set_ 2 v').cell 2⟩
theorem rankN_any (w : World) (b : Bool) : Calls Try.prog 180 #[.bool b] w fun e w' => e = .returned (.int .i64 (boolN b)) ∧ w = w' := rank_any w b
set_option maxRecDepth 100000 in
set_option maxHeartbeats 4000000 in
theorem cmp_any (m : Nat) : CmpIH m := by
  induction m with
  | zero => intro d y hd; have := Val.sz_pos d; omega
  | succ m ih =>
  intro x y hd w sl so sl' so' h h'
  have hv := fun (W : World) (hW : Ext w W) => inOrderV ih hd ((h.agree (hW.agree fun _ h => h)).mono fun i hi => Nat.lt_of_lt_of_le hi hW.size) ((h'.agree (hW.agree fun _ h => h)).mono fun i hi => Nat.lt_of_lt_of_le hi hW.size)
  have hm := fun (W : World) (hW : Ext w W) => inOrderM ih hd ((h.agree (hW.agree fun _ h => h)).mono fun i hi => Nat.lt_of_lt_of_le hi hW.size) ((h'.agree (hW.agree fun _ h => h)).mono fun i hi => Nat.lt_of_lt_of_le hi hW.size)
  clear ih h h' hd
  obtain ⟨k, b, i, t, l, ok, ov⟩ := x
  obtain ⟨k', b', i', t', l', ok', ov'⟩ := y
  have HV := Lib.hid (show ∀ (W : World) (hW : Ext w W), Calls Try.prog 183 #[.slice sl.a l.length sl.c, .slice sl'.a l'.length sl'.c, .func (.func 156) #[] #[]] W (CmpPost (cmpL l l') W) from hv)
  have HM := Lib.hid (show ∀ (W : World) (hW : Ext w W), Calls Try.prog 184 #[.slice so.a ok.length so.c, .slice so'.a ok'.length so'.c, .func (.func 185) #[] #[]] W (CmpPost (cmpM ov ok ok' ov') W) from hm)
  show Calls _ _ #[.agg #[.int .i64 k, .bool b, .int .i64 i, .string t, .slice sl.a l.length sl.c, .slice so.a ok.length so.c], .agg #[.int .i64 k', .bool b', .int .i64 i', .string t', .slice sl'.a l'.length sl'.c, .slice so'.a ok'.length so'.c]] _ _
  have hcv : cmpV (.mk k b i t l ok ov) (.mk k' b' i' t' l' ok' ov') = if k ≠ k' then numI k k' else if k = 2 then boolI b b' else if k = 3 then numI i i' else if k = 4 then textI t t' else if k = 5 then cmpL l l' else if k = 6 then cmpM ov ok ok' ov' else 0 := by
    simp only [cmpV, Val.kind, Val.b, Val.i, Val.t, Val.l, Val.ok, Val.ov]
    rfl
  rw [hcv]
  clear hcv hv hm
  have hXX : Ext w ((w.alloc (.cells #[.int .i64 k, .bool b, .int .i64 i, .string t, .slice sl.a l.length sl.c, .slice so.a ok.length so.c] 49)).alloc (.cells #[.int .i64 k', .bool b', .int .i64 i', .string t', .slice sl'.a l'.length sl'.c, .slice so'.a ok'.length so'.c] 49)) := ((Ext.refl w).alloc _ _).alloc _ _
  have HXX := Lib.hid hXX
  have HK := Lib.hid (fun W => compareKind_any W k k')
  have HI := Lib.hid (fun W a b => compareint64_any W a b)
  have HT := Lib.hid (fun W => stringsCompare_any W t t')
  have HR := Lib.hid (fun W (b : Bool) => rankN_any W b)
  clear hXX
  by_cases hkk : k = k'
  · subst hkk
    have hkb : (k != k) = false := by simp
    rw [if_neg (by simp)]
    by_cases h2 : k = 2
    · subst h2
      rw [if_pos rfl, ← boolN_cmp]
      clear HXX
      go_enter Try.func156, Try.ntmps156
      go_wp2_with fail
      generalize hW0 : World.alloc (World.alloc _ _) _ = W0
      obtain ⟨hx0, hz0, hb0, hb1⟩ := two_blocks w _ _ _ _ W0 hW0
      clear hW0
      have hB0 : BxS w b b' W0 := ⟨hx0, ⟨_, _, _, _, _, hb0⟩, ⟨_, _, _, _, _, hb1⟩⟩
      have HSS := Lib.hid (show ∀ W, BxS w b b' W → W.cell? ⟨w.heap.size, 1, none⟩ = some (.bool b) ∧ W.cell? ⟨w.heap.size + 1, 1, none⟩ = some (.bool b') from fun W hW => by
        obtain ⟨-, ⟨a0, a2, a3, a4, a5, ha⟩, ⟨c0, c2, c3, c4, c5, hc⟩⟩ := hW
        exact ⟨ha.cell 1, hc.cell 1⟩)
      have HB0 := Lib.hid hB0
      clear hx0 hb0 hb1 hB0 hz0
      refine wp_region_held_drew (S := (fun w' => BxS w b b' w')) (by kernel_rfl) ((HB0.out.drew)) (fun hHeld => ?_)
      refine held_on (i := 0) (d := (some 27)) (v := ?_) rfl rfl (by kernel_rfl) (by kernel_rfl) (by kernel_rfl) (fun _ _ _ h => h) (by rfl) hHeld ?_ ?_
      rotate_left
      focus (intro w hSw; have hSc := HSS.out w hSw; clear hSw; go_simp; first | done | with_reducible rfl)
      try simp only [Act.put, List.setIfInBounds_toArray, List.set_cons_zero, List.set_cons_succ]
      refine held_on (i := 1) (d := (some 28)) (v := ?_) rfl rfl (by kernel_rfl) (by kernel_rfl) (by kernel_rfl) (fun _ _ _ h => h) (by rfl) hHeld ?_ ?_
      rotate_left
      focus (intro w hSw; have hSc := HSS.out w hSw; clear hSw; go_simp; first | done | with_reducible rfl)
      try simp only [Act.put, List.setIfInBounds_toArray, List.set_cons_zero, List.set_cons_succ]
      refine held_on (i := 3) (d := (some 30)) (v := ?_) rfl rfl (by kernel_rfl) (by kernel_rfl) (by kernel_rfl) (fun _ _ _ h => h) (by rfl) hHeld ?_ ?_
      rotate_left
      focus (intro w hSw; have hSc := HSS.out w hSw; clear hSw; go_simp; first | done | with_reducible rfl)
      try simp only [Act.put, List.setIfInBounds_toArray, List.set_cons_zero, List.set_cons_succ]
      refine held_on (i := 4) (d := (some 31)) (v := ?_) rfl rfl (by kernel_rfl) (by kernel_rfl) (by kernel_rfl) (fun _ _ _ h => h) (by rfl) hHeld ?_ ?_
      rotate_left
      focus (intro w hSw; have hSc := HSS.out w hSw; clear hSw; go_simp; first | done | with_reducible rfl)
      try simp only [Act.put, List.setIfInBounds_toArray, List.set_cons_zero, List.set_cons_succ]
      refine held_call (i := 2) (by kernel_rfl) rfl (by rfl) (fun K hK => ?_)
      go_simp
      (refine (HR.out _ b).mono ?_; rintro e w1 ⟨rfl, rfl⟩)
      refine hK.out _ _ (hHeld) (fun hHeld => ?_)
      clear hK K
      try simp only [Act.put, List.setIfInBounds_toArray, List.set_cons_zero, List.set_cons_succ]
      refine held_on (i := 6) (d := (some 33)) (v := ?_) rfl rfl (by kernel_rfl) (by kernel_rfl) (by kernel_rfl) (fun _ _ _ h => h) (by rfl) hHeld ?_ ?_
      rotate_left
      focus (intro w hSw; have hSc := HSS.out w hSw; clear hSw; go_simp; first | done | with_reducible rfl)
      try simp only [Act.put, List.setIfInBounds_toArray, List.set_cons_zero, List.set_cons_succ]
      refine held_call (i := 5) (by kernel_rfl) rfl (by rfl) (fun K hK => ?_)
      go_simp
      (refine (HR.out _ b').mono ?_; rintro e w1 ⟨rfl, rfl⟩)
      refine hK.out _ _ (hHeld) (fun hHeld => ?_)
      clear hK K
      try simp only [Act.put, List.setIfInBounds_toArray, List.set_cons_zero, List.set_cons_succ]
      obtain ⟨u7, c7, f7, l7⟩ := hHeld.at0
      refine held_call (i := 7) (by kernel_rfl) rfl (by rfl) (fun K hK => ?_)
      go_simp
      skip
      refine hK.out _ _ (hHeld.set0 _) (fun hHeld => ?_)
      clear hK K
      try simp only [Act.put, List.setIfInBounds_toArray, List.set_cons_zero, List.set_cons_succ]
      refine held_on (i := 8) (d := (some 34)) (v := ?_) rfl rfl (by kernel_rfl) (by kernel_rfl) (by kernel_rfl) (fun _ _ _ h => h) (by rfl) hHeld ?_ ?_
      rotate_left
      focus (intro w hSw; have hSc := HSS.out w hSw; clear hSw; go_simp; first | done | with_reducible rfl)
      try simp only [Act.put, List.setIfInBounds_toArray, List.set_cons_zero, List.set_cons_succ]
      obtain ⟨u9, c9, f9, l9⟩ := hHeld.at1
      refine held_call (i := 9) (by kernel_rfl) rfl (by rfl) (fun K hK => ?_)
      go_simp
      skip
      refine hK.out _ _ (hHeld.set1 _) (fun hHeld => ?_)
      clear hK K
      try simp only [Act.put, List.setIfInBounds_toArray, List.set_cons_zero, List.set_cons_succ]
      refine wpAnyH_done (by kernel_rfl) ?_ _
      have HH := Lib.hid hHeld
      obtain ⟨q0, q1⟩ := HB0.out.ends (.int .i64 (boolN b)) (.int .i64 (boolN b'))
      clear hHeld
      generalize (W0.setCell ⟨w.heap.size, 2, none⟩ (.int .i64 (boolN b))).setCell ⟨w.heap.size + 1, 2, none⟩ (.int .i64 (boolN b')) = W9 at *
      go_wp2_with fail
      refine (HI.out _ _ _).mono ?_
      rintro e w2 ⟨rfl, rfl⟩
      go_wp2_with fail
      go_ret
      exact ⟨rfl, HH.out.ext⟩
    have h2b : (k == 2) = false := beq_eq_false_iff_ne.2 h2
    by_cases h3 : k = 3
    · subst h3
      rw [if_neg h2, if_pos rfl]
      clear h2
      go_enter Try.func156, Try.ntmps156
      go_wp2_with fail
      refine (HI.out _ _ _).mono ?_
      rintro e w2 ⟨rfl, rfl⟩
      go_wp2_with fail
      go_ret
      exact ⟨rfl, HXX.out⟩
    have h3b : (k == 3) = false := beq_eq_false_iff_ne.2 h3
    by_cases h4 : k = 4
    · subst h4
      rw [if_neg h2, if_neg h3, if_pos rfl]
      clear h2 h3
      go_enter Try.func156, Try.ntmps156
      go_wp2_with fail
      refine (HT.out _).mono ?_
      rintro e w2 ⟨rfl, rfl⟩
      go_wp2_with fail
      go_ret
      exact ⟨rfl, HXX.out⟩
    have h4b : (k == 4) = false := beq_eq_false_iff_ne.2 h4
    rw [if_neg h2, if_neg h3, if_neg h4]
    by_cases h5 : k = 5
    · subst h5
      rw [if_pos rfl]
      clear h2 h3 h4
      go_enter Try.func156, Try.ntmps156
      go_wp2_with fail
      refine (HV.out _ HXX.out).mono ?_
      rintro e w2 ⟨rfl, hx⟩
      have HX := Lib.hid hx
      clear hx
      go_wp2_with fail
      go_ret
      exact ⟨rfl, HXX.out.trans HX.out⟩
    have h5b : (k == 5) = false := beq_eq_false_iff_ne.2 h5
    rw [if_neg h5]
    by_cases h6 : k = 6
    · subst h6
      rw [if_pos rfl]
      clear h2 h3 h4 h5
      go_enter Try.func156, Try.ntmps156
      go_wp2_with fail
      refine (HM.out _ HXX.out).mono ?_
      rintro e w2 ⟨rfl, hx⟩
      have HX := Lib.hid hx
      clear hx
      go_wp2_with fail
      go_ret
      exact ⟨rfl, HXX.out.trans HX.out⟩
    have h6b : (k == 6) = false := beq_eq_false_iff_ne.2 h6
    rw [if_neg h6]
    clear h2 h3 h4 h5 h6
    go_enter Try.func156, Try.ntmps156
    go_wp2_with fail
    go_ret
    exact ⟨rfl, HXX.out⟩
  · have hkb : (k != k') = true := bne_iff_ne.2 hkk
    rw [if_pos hkk]
    clear hkk
    go_enter Try.func156, Try.ntmps156
    go_wp2_with fail
    refine (HK.out _).mono ?_
    rintro e w2 ⟨rfl, rfl⟩
    go_wp2_with fail
    go_ret
    exact ⟨rfl, HXX.out⟩
end Go.Proofs.Ytpapoalgocmlaaa
