/- What the theorem needs of the texts DiffShares: no condition of its own. -/
import Derived.Test.YtpapoalgocmlaaaGreatPza
import Derived.Test.YtpapoalgocmlaaaGreatPzb
import Derived.Test.YtpapoalgocmlaaaGreatPzc
import Derived.Test.YtpapoalgocmlaaaGreatPzd
import Derived.Test.YtpapoalgocmlaaaGreatPze
import Derived.Test.YtpapoalgocmlaaaGreatPzf
import Derived.Test.YtpapoalgocmlaaaGreatPzg
import Derived.Test.YtpapoalgocmlaaaGreatPzh
import Derived.Test.YtpapoalgocmlaaaGreatPzi
import Derived.Test.YtpapoalgocmlaaaGreatPzj
namespace Go.Proofs.YtpapoalgocmlaaaGreat
open Go.RowKit Go.Shelf
set_option linter.unusedVariables false
set_option linter.unusedSimpArgs false
theorem Pl.count {base : Nat} {H H' : Nat → Prop} {M M' : Nat} {T U : RT} {p q : Option Addr} {n n' : Nat} {w : World} (h : Pl base H M T p n w) (h' : Pl base H' M' U q n' w) (hn : n ≤ 100000) (hn' : n' ≤ 100000) :
    Calls Tryz.prog 7 #[.agg #[.pointer p], .agg #[.pointer q]] w (CountPost T U w) := by
  have := countD_any (F := NH H w) (F' := NH H' w) h.play.tree h'.play.tree (fun b hb => hb.1) (fun b hb => hb.1) h.play.ok h'.play.ok (by have := h.few; omega) (by have := h'.few; omega)
  rwa [treeV, treeV, h.root, h'.root] at this
theorem Pl.fresh {base : Nat} {H H' : Nat → Prop} {M M' : Nat} {T U : RT} {p q : Option Addr} {n n' : Nat} {w : World} (h : Pl base H M T p n w) (h' : Pl base H' M' U q n' w) (hn : n ≤ 100000) (hn' : n' ≤ 100000) :
    Calls Tryz.prog 9 #[.agg #[.pointer p], .agg #[.pointer q]] w fun e w' => e = .returned (.int .i64 (freshR T U)) ∧ Ext w w' :=
  treeFresh_any (F := NH H w) (G := NH H' w) h.root h'.root h.play.ok (by have := h.few; omega) (fun b hb => hb.1) h.play.tree h'.play.ok (by have := h'.few; omega) (fun b hb => hb.1) h'.play.tree
theorem freshN_few (has : (k : Nat) → PT k → Bool) : ∀ (h : Nat) (t : PT h), freshN has h t ≤ nodeN h t
  | 0, t => by simp only [freshN, nodeN]; split <;> omega
  | h + 1, t => by
    simp only [freshN, nodeN]
    split
    · omega
    · have : ∀ l : List (PT h), (l.map (freshN has h)).sum ≤ (l.map (nodeN h)).sum := fun l => by
        induction l with
        | nil => simp
        | cons a l ih =>
          have := freshN_few has h a
          simp only [List.map_cons, List.sum_cons]; omega
      have := this t.2
      omega
theorem freshR_few {T U : RT} (ok : OkR U) : freshR T U ≤ 2 * (entsT U).length := by
  have h := nodesT_le ok
  cases U with
  | none => exact Nat.zero_le _
  | some a =>
    have h1 := freshN_few (hasR T) a.1 a.2
    have h2 : nodesT (some a) = nodeN a.1 a.2 := by simp [nodesT, nodesA]
    show freshN (hasR T) a.1 a.2 ≤ _
    omega
set_option maxRecDepth 100000 in
set_option maxHeartbeats 8000000 in
theorem diffshares_w (s0 : Sl) (l0 : List LA) (s1 : Sl) (l1 : List LA) (s2 : Sl) (l2 : List LA) (w : World) (h0 : AS w (Lt w.heap.size) s0 l0) (h1 : AS w (Lt w.heap.size) s1 l1) (h2 : AS w (Lt w.heap.size) s2 l2) :
    Calls Tryz.prog 3 #[.slice s0.a l0.length s0.c, .slice s1.a l1.length s1.c, .slice s2.a l2.length s2.c] w fun e w' => e = .returned (.bool true) ∧ Ext w w' := by
  by_cases hbig : 200 < l0.length ∨ 100 < l1.length ∨ 100 < l2.length
  · have hcase : (200 : Int) < (l0.length : Int) ∨ (¬ (200 : Int) < (l0.length : Int) ∧ (100 : Int) < (l1.length : Int)) ∨ (¬ (200 : Int) < (l0.length : Int) ∧ ¬ (100 : Int) < (l1.length : Int) ∧ (100 : Int) < (l2.length : Int)) := by omega
    clear h0 h1 h2 hbig
    rcases hcase with g | ⟨g, g'⟩ | ⟨g, g', g2⟩
    all_goals
      go_enter Tryz.func3, Tryz.ntmps3
      go_wp2_with fail
      refine (known09 w).mono ?_
      rintro e w9 ⟨rfl, hx9⟩
      go_wp2_with fail
      go_ret
      exact ⟨rfl, hx9⟩
  · have g0 : ¬ (200 : Int) < (l0.length : Int) := by omega
    have g1 : ¬ (100 : Int) < (l1.length : Int) := by omega
    have g2 : ¬ (100 : Int) < (l2.length : Int) := by omega
    have H0 := Lib.hid h0
    have H1 := Lib.hid h1
    have H2 := Lib.hid h2
    clear h0 h1 h2 hbig
    go_enter Tryz.func3, Tryz.ntmps3
    go_wp2_with fail
    generalize hW0 : World.alloc (World.alloc _ _) _ = W0
    obtain ⟨hx0, hz0, hb0, hb1⟩ := two_blocks w _ _ _ _ W0 hW0
    have P0 := Lib.hid (show Pl w.heap.size (fun b => b = w.heap.size + 1) (w.heap.size + 1) none none 0 W0 from ⟨fun b hb => by omega, by omega, PlayI.nil rfl hb1, fun b hb => by omega, rfl, Nat.le_refl _⟩)
    have HX0 := Lib.hid hx0
    have HB0 := Lib.hid hb0
    have hs0 := hx0.size
    clear hW0 hx0 hb0 hb1 hz0
    refine (P0.out.run (H0.out.agree (HX0.out.agree fun _ h => h)) (fun b (hb : b < w.heap.size) => ⟨by omega, by omega⟩) (by omega)).mono ?_
    rintro e w1 ⟨T1, p1, M1, rfl, hP1, hx1, -⟩
    have P1 := Lib.hid hP1
    have HX1 := Lib.hid (HX0.out.trans hx1)
    have HX01 := Lib.hid hx1
    have hs1 := hx1.size
    clear hP1 hx1
    go_wp2_with fail
    have HXA := Lib.hid ((Ext.refl w1).alloc #[.pointer p1] 27)
    have HBT := Lib.hid (Blk.new w1 27 #[.pointer p1])
    refine ((P1.out.ext HXA.out).run (H1.out.agree ((HX1.out.trans HXA.out).agree fun _ h => h)) (fun b (hb : b < w.heap.size) => ⟨by have := HXA.out.size; omega, fun hh => by have := P1.out.lo b hh; omega⟩) (by omega)).mono ?_
    rintro e w2 ⟨T2, p2, M2, rfl, hP2, hx2, -⟩
    have P2 := Lib.hid hP2
    have P12 := Lib.hid (P1.out.ext (HXA.out.trans hx2))
    have HBT2 := Lib.hid (HBT.out.ext hx2)
    have HX2 := Lib.hid ((HX1.out.trans HXA.out).trans hx2)
    have HX02 := Lib.hid ((HX01.out.trans HXA.out).trans hx2)
    have hb2 := HBT.out.ext hx2
    have c2 : w2.cell? ⟨w1.heap.size, 0, none⟩ = some (.pointer p1) := hb2.cell 0
    have l2' := hb2.lt
    have hs2 := HX2.out.size
    clear hP2 hx2 hb2
    go_wp2_with fail
    have HXB := Lib.hid ((Ext.refl w2).alloc #[.pointer p2] 27)
    have HBU := Lib.hid (Blk.new w2 27 #[.pointer p2])
    refine ((P12.out.ext HXB.out).run (H2.out.agree ((HX2.out.trans HXB.out).agree fun _ h => h)) (fun b (hb : b < w.heap.size) => ⟨by have := HXB.out.size; omega, fun hh => by have := P12.out.lo b hh; omega⟩) (by omega)).mono ?_
    rintro e w3 ⟨T9, p9, M9, rfl, hP3, hx3, -⟩
    have hx4 := hx3.alloc #[.pointer p9] 27
    have hx24 := HXB.out.trans hx4
    have P9 := Lib.hid (hP3.ext ((Ext.refl w3).alloc #[.pointer p9] 27))
    have P19 := Lib.hid (P12.out.ext hx24)
    have P29 := Lib.hid (P2.out.ext hx24)
    have HB1 := Lib.hid (HBT2.out.ext hx24)
    have HB2 := Lib.hid (HBU.out.ext hx4)
    have HB9 := Lib.hid (Blk.new w3 27 #[.pointer p9])
    have HX9 := Lib.hid (HX2.out.trans hx24)
    obtain ⟨n9, hn9⟩ : ∃ n, 0 + l0.length + l2.length = n := ⟨_, rfl⟩
    rw [hn9] at P9
    have hn9' : n9 ≤ 100000 := by omega
    clear hP3 hx3 hx4 hx24 hn9 c2 l2'
    have q9 : (w3.alloc (.cells #[.pointer p9] 27)).cell? ⟨w2.heap.size, 0, none⟩ = some (.pointer p2) ∧ (w3.alloc (.cells #[.pointer p9] 27)).cell? ⟨w3.heap.size, 0, none⟩ = some (.pointer p9) := ⟨HB2.out.cell 0, HB9.out.cell 0⟩
    have hl9 := HB9.out.lt
    have hl2 := HB2.out.lt
    go_wp2_with fail
    generalize w3.alloc (.cells #[.pointer p9] 27) = W9 at *
    have HCH := Lib.hid (fun (W : World) (hW : Ext W9 W) => (P29.out.ext hW).changes (P9.out.ext hW) (by omega) (by omega))
    have HCN := Lib.hid (fun (W : World) (hW : Ext W9 W) => (P29.out.ext hW).count (P9.out.ext hW) (by omega) (by omega))
    have HFU := Lib.hid (fun (W : World) (hW : Ext W9 W) => (P29.out.ext hW).fresh (P9.out.ext hW) (by omega) (by omega))
    have HFV := Lib.hid (fun (W : World) (hW : Ext W9 W) => (P9.out.ext hW).fresh (P29.out.ext hW) (by omega) (by omega))
    have HCU := Lib.hid (show ∀ W, Ext W9 W → Calls Tryz.prog 7 #[.agg #[.pointer p2], .agg #[.pointer p2]] W fun e w' => e = .returned (.tuple #[.int .i64 0, .int .i64 0]) ∧ Ext W w' from fun W hW => ((P29.out.ext hW).count (P29.out.ext hW) (by omega) (by omega)).mono fun e w' h => by
      obtain ⟨o, h1, h2, h3⟩ := h
      rw [fresh_self P29.out.play.ok] at h2
      obtain rfl : o = 0 := by omega
      rw [chg_self] at h1
      exact ⟨h1, h3⟩)
    obtain ⟨n, hn⟩ : ∃ n, (chg (entsT T2) (entsT T9)).length = n := ⟨_, rfl⟩
    obtain ⟨f1, hf1⟩ : ∃ f, freshR T2 T9 = f := ⟨_, rfl⟩
    obtain ⟨f2, hf2⟩ : ∃ f, freshR T9 T2 = f := ⟨_, rfl⟩
    have hf1b : f1 ≤ 1000000 := by
      rw [← hf1]
      have h1 := freshR_few (T := T2) P9.out.play.ok
      have h2 := P9.out.few
      omega
    have hf2b : f2 ≤ 1000000 := by
      rw [← hf2]
      have h1 := freshR_few (T := T9) P29.out.play.ok
      have h2 := P29.out.few
      omega
    rw [hf1] at HFU
    rw [hf2] at HFV
    unfold CountPost at HCN
    rw [hn, hf1, hf2] at HCN
    have HN := Lib.hid hn
    have HSS := Lib.hid (show ∀ W, Ext W9 W → W.cell? ⟨w2.heap.size, 0, none⟩ = some (.pointer p2) ∧ W.cell? ⟨w3.heap.size, 0, none⟩ = some (.pointer p9) from
      fun W hW => ⟨(HB2.out.ext hW).cell 0, (HB9.out.ext hW).cell 0⟩)
    clear hn hf1 hf2
    refine (HCN.out _ (Ext.refl _)).mono ?_
    rintro e wa ⟨o1, rfl, ho1, hxa⟩
    have qa := HSS.out _ hxa
    have HXA1 := Lib.hid hxa
    have hsum : IntKind.i64.wrap ((f1 : Int) + (f2 : Int)) = (f1 : Int) + (f2 : Int) := by rw [IntKind.wrap_i64]; omega
    have hleq : decide ((o1 : Int) ≤ (f1 : Int) + (f2 : Int)) = true := decide_eq_true (by omega)
    have hleq' : (o1 : Int) ≤ (f1 : Int) + (f2 : Int) := by omega
    have hsz1 := hxa.size
    clear hxa q9 ho1
    go_wp2_with fail
    refine (HCU.out _ HXA1.out).mono ?_
    rintro e wb ⟨rfl, hxb⟩
    have HXB1 := Lib.hid (HXA1.out.trans hxb)
    clear hxb qa
    go_wp2_with fail
    refine wp_region_held_drew (S := (fun w' => Ext W9 w')) (by kernel_rfl) (HXB1.out.drew) (fun hHeld => ?_)
    refine held_on (i := 0) (d := (some 66)) (v := ?_) rfl rfl (by kernel_rfl) (by kernel_rfl) (by kernel_rfl) (fun _ _ _ h => h) (by rfl) hHeld ?_ ?_
    rotate_left
    focus (intro w hSw; have hSc := HSS.out w hSw; clear hSw; go_simp; first | done | with_reducible rfl)
    try simp only [Act.put, List.setIfInBounds_toArray, List.set_cons_zero, List.set_cons_succ]
    refine held_on (i := 1) (d := (some 67)) (v := ?_) rfl rfl (by kernel_rfl) (by kernel_rfl) (by kernel_rfl) (fun _ _ _ h => h) (by rfl) hHeld ?_ ?_
    rotate_left
    focus (intro w hSw; have hSc := HSS.out w hSw; clear hSw; go_simp; first | done | with_reducible rfl)
    try simp only [Act.put, List.setIfInBounds_toArray, List.set_cons_zero, List.set_cons_succ]
    refine held_on (i := 2) (d := (some 68)) (v := ?_) rfl rfl (by kernel_rfl) (by kernel_rfl) (by kernel_rfl) (fun _ _ _ h => h) (by rfl) hHeld ?_ ?_
    rotate_left
    focus (intro w hSw; have hSc := HSS.out w hSw; clear hSw; go_simp; first | done | with_reducible rfl)
    try simp only [Act.put, List.setIfInBounds_toArray, List.set_cons_zero, List.set_cons_succ]
    refine held_call (i := 3) (by kernel_rfl) rfl (by rfl) (fun K hK => ?_)
    go_simp
    (refine (HCH.out _ hHeld).mono ?_; rintro e wc ⟨sa, ca, rfl, hca, hxc, -⟩; have hla : ca.length = n := (by rw [← HN.out, ← hca, List.length_map]); rw [hla]; have HXC := Lib.hid (hHeld.trans hxc); clear hca hxc hla)
    refine hK.out _ _ (HXC.out) (fun hHeld => ?_)
    clear hK K
    try simp only [Act.put, List.setIfInBounds_toArray, List.set_cons_zero, List.set_cons_succ]
    refine held_on (i := 4) (d := (some 70)) (v := ?_) rfl rfl (by kernel_rfl) (by kernel_rfl) (by kernel_rfl) (fun _ _ _ h => h) (by rfl) hHeld ?_ ?_
    rotate_left
    focus (intro w hSw; have hSc := HSS.out w hSw; clear hSw; go_simp; first | done | with_reducible rfl)
    try simp only [Act.put, List.setIfInBounds_toArray, List.set_cons_zero, List.set_cons_succ]
    refine held_on (i := 5) (d := (some 71)) (v := ?_) rfl rfl (by kernel_rfl) (by kernel_rfl) (by kernel_rfl) (fun _ _ _ h => h) (by rfl) hHeld ?_ ?_
    rotate_left
    focus (intro w hSw; have hSc := HSS.out w hSw; clear hSw; go_simp; first | done | with_reducible rfl)
    try simp only [Act.put, List.setIfInBounds_toArray, List.set_cons_zero, List.set_cons_succ]
    refine held_on (i := 6) (d := (some 72)) (v := ?_) rfl rfl (by kernel_rfl) (by kernel_rfl) (by kernel_rfl) (fun _ _ _ h => h) (by rfl) hHeld ?_ ?_
    rotate_left
    focus (intro w hSw; have hSc := HSS.out w hSw; clear hSw; go_simp; first | done | with_reducible rfl)
    try simp only [Act.put, List.setIfInBounds_toArray, List.set_cons_zero, List.set_cons_succ]
    refine held_on (i := 7) (d := (some 73)) (v := ?_) rfl rfl (by kernel_rfl) (by kernel_rfl) (by kernel_rfl) (fun _ _ _ h => h) (by rfl) hHeld ?_ ?_
    rotate_left
    focus (intro w hSw; have hSc := HSS.out w hSw; clear hSw; go_simp; first | done | with_reducible rfl)
    try simp only [Act.put, List.setIfInBounds_toArray, List.set_cons_zero, List.set_cons_succ]
    refine held_on (i := 8) (d := (some 74)) (v := ?_) rfl rfl (by kernel_rfl) (by kernel_rfl) (by kernel_rfl) (fun _ _ _ h => h) (by rfl) hHeld ?_ ?_
    rotate_left
    focus (intro w hSw; have hSc := HSS.out w hSw; clear hSw; go_simp; first | done | with_reducible rfl)
    try simp only [Act.put, List.setIfInBounds_toArray, List.set_cons_zero, List.set_cons_succ]
    refine held_on (i := 9) (d := (some 75)) (v := ?_) rfl rfl (by kernel_rfl) (by kernel_rfl) (by kernel_rfl) (fun _ _ _ h => h) (by rfl) hHeld ?_ ?_
    rotate_left
    focus (intro w hSw; have hSc := HSS.out w hSw; clear hSw; go_simp; first | done | with_reducible rfl)
    try simp only [Act.put, List.setIfInBounds_toArray, List.set_cons_zero, List.set_cons_succ]
    refine held_on (i := 11) (d := (some 77)) (v := ?_) rfl rfl (by kernel_rfl) (by kernel_rfl) (by kernel_rfl) (fun _ _ _ h => h) (by rfl) hHeld ?_ ?_
    rotate_left
    focus (intro w hSw; have hSc := HSS.out w hSw; clear hSw; go_simp; first | done | with_reducible rfl)
    try simp only [Act.put, List.setIfInBounds_toArray, List.set_cons_zero, List.set_cons_succ]
    refine held_on (i := 12) (d := (some 78)) (v := ?_) rfl rfl (by kernel_rfl) (by kernel_rfl) (by kernel_rfl) (fun _ _ _ h => h) (by rfl) hHeld ?_ ?_
    rotate_left
    focus (intro w hSw; have hSc := HSS.out w hSw; clear hSw; go_simp; first | done | with_reducible rfl)
    try simp only [Act.put, List.setIfInBounds_toArray, List.set_cons_zero, List.set_cons_succ]
    refine held_call (i := 10) (by kernel_rfl) rfl (by rfl) (fun K hK => ?_)
    go_simp
    (refine (HFU.out _ hHeld).mono ?_; rintro e wd ⟨rfl, hxd⟩)
    refine hK.out _ _ (hHeld.trans hxd) (fun hHeld => ?_)
    clear hK K
    try simp only [Act.put, List.setIfInBounds_toArray, List.set_cons_zero, List.set_cons_succ]
    refine held_call (i := 13) (by kernel_rfl) rfl (by rfl) (fun K hK => ?_)
    go_simp
    (refine (HFV.out _ hHeld).mono ?_; rintro e we ⟨rfl, hxe⟩)
    refine hK.out _ _ (hHeld.trans hxe) (fun hHeld => ?_)
    clear hK K
    try simp only [Act.put, List.setIfInBounds_toArray, List.set_cons_zero, List.set_cons_succ]
    refine held_on (i := 14) (d := (some 80)) (v := ?_) rfl rfl (by kernel_rfl) (by kernel_rfl) (by kernel_rfl) (fun _ _ _ h => h) (by rfl) hHeld ?_ ?_
    rotate_left
    focus (intro w hSw; have hSc := HSS.out w hSw; clear hSw; go_simp; first | done | with_reducible rfl)
    try simp only [Act.put, List.setIfInBounds_toArray, List.set_cons_zero, List.set_cons_succ]
    refine held_on (i := 15) (d := (some 81)) (v := ?_) rfl rfl (by kernel_rfl) (by kernel_rfl) (by kernel_rfl) (fun _ _ _ h => h) (by rfl) hHeld ?_ ?_
    rotate_left
    focus (intro w hSw; have hSc := HSS.out w hSw; clear hSw; go_simp; first | done | with_reducible rfl)
    try simp only [Act.put, List.setIfInBounds_toArray, List.set_cons_zero, List.set_cons_succ]
    refine held_on (i := 16) (d := (some 82)) (v := ?_) rfl rfl (by kernel_rfl) (by kernel_rfl) (by kernel_rfl) (fun _ _ _ h => h) (by rfl) hHeld ?_ ?_
    rotate_left
    focus (intro w hSw; have hSc := HSS.out w hSw; clear hSw; go_simp; first | done | with_reducible rfl)
    try simp only [Act.put, List.setIfInBounds_toArray, List.set_cons_zero, List.set_cons_succ]
    refine held_on (i := 17) (d := (some 83)) (v := ?_) rfl rfl (by kernel_rfl) (by kernel_rfl) (by kernel_rfl) (fun _ _ _ h => h) (by rfl) hHeld ?_ ?_
    rotate_left
    focus (intro w hSw; have hSc := HSS.out w hSw; clear hSw; go_simp; first | done | with_reducible rfl)
    try simp only [Act.put, List.setIfInBounds_toArray, List.set_cons_zero, List.set_cons_succ]
    refine held_on (i := 18) (d := (some 84)) (v := ?_) rfl rfl (by kernel_rfl) (by kernel_rfl) (by kernel_rfl) (fun _ _ _ h => h) (by rfl) hHeld ?_ ?_
    rotate_left
    focus (intro w hSw; have hSc := HSS.out w hSw; clear hSw; go_simp; first | done | with_reducible rfl)
    try simp only [Act.put, List.setIfInBounds_toArray, List.set_cons_zero, List.set_cons_succ]
    refine held_on (i := 19) (d := (some 85)) (v := ?_) rfl rfl (by kernel_rfl) (by kernel_rfl) (by kernel_rfl) (fun _ _ _ h => h) (by rfl) hHeld ?_ ?_
    rotate_left
    focus (intro w hSw; have hSc := HSS.out w hSw; clear hSw; go_simp; first | done | with_reducible rfl)
    try simp only [Act.put, List.setIfInBounds_toArray, List.set_cons_zero, List.set_cons_succ]
    refine held_on (i := 20) (d := (some 86)) (v := ?_) rfl rfl (by kernel_rfl) (by kernel_rfl) (by kernel_rfl) (fun _ _ _ h => h) (by rfl) hHeld ?_ ?_
    rotate_left
    focus (intro w hSw; have hSc := HSS.out w hSw; clear hSw; go_simp; first | done | with_reducible rfl)
    try simp only [Act.put, List.setIfInBounds_toArray, List.set_cons_zero, List.set_cons_succ]
    refine held_on (i := 21) (d := (some 87)) (v := ?_) rfl rfl (by kernel_rfl) (by kernel_rfl) (by kernel_rfl) (fun _ _ _ h => h) (by rfl) hHeld ?_ ?_
    rotate_left
    focus (intro w hSw; have hSc := HSS.out w hSw; clear hSw; go_simp; first | done | with_reducible rfl)
    try simp only [Act.put, List.setIfInBounds_toArray, List.set_cons_zero, List.set_cons_succ]
    refine held_on (i := 22) (d := (some 88)) (v := ?_) rfl rfl (by kernel_rfl) (by kernel_rfl) (by kernel_rfl) (fun _ _ _ h => h) (by rfl) hHeld ?_ ?_
    rotate_left
    focus (intro w hSw; have hSc := HSS.out w hSw; clear hSw; go_simp; first | done | with_reducible rfl)
    try simp only [Act.put, List.setIfInBounds_toArray, List.set_cons_zero, List.set_cons_succ]
    refine held_on (i := 23) (d := (some 89)) (v := ?_) rfl rfl (by kernel_rfl) (by kernel_rfl) (by kernel_rfl) (fun _ _ _ h => h) (by rfl) hHeld ?_ ?_
    rotate_left
    focus (intro w hSw; have hSc := HSS.out w hSw; clear hSw; go_simp; first | done | with_reducible rfl)
    try simp only [Act.put, List.setIfInBounds_toArray, List.set_cons_zero, List.set_cons_succ]
    refine held_on (i := 24) (d := (some 90)) (v := ?_) rfl rfl (by kernel_rfl) (by kernel_rfl) (by kernel_rfl) (fun _ _ _ h => h) (by rfl) hHeld ?_ ?_
    rotate_left
    focus (intro w hSw; have hSc := HSS.out w hSw; clear hSw; go_simp; first | done | with_reducible rfl)
    try simp only [Act.put, List.setIfInBounds_toArray, List.set_cons_zero, List.set_cons_succ]
    refine held_on (i := 25) (d := (some 91)) (v := ?_) rfl rfl (by kernel_rfl) (by kernel_rfl) (by kernel_rfl) (fun _ _ _ h => h) (by rfl) hHeld ?_ ?_
    rotate_left
    focus (intro w hSw; have hSc := HSS.out w hSw; clear hSw; go_simp; first | done | with_reducible rfl)
    try simp only [Act.put, List.setIfInBounds_toArray, List.set_cons_zero, List.set_cons_succ]
    refine held_call (i := 26) (by kernel_rfl) rfl (by rfl) (fun K hK => ?_)
    go_simp
    (refine (known09 _).mono ?_; rintro e wf ⟨rfl, hxf⟩)
    refine hK.out _ _ (hHeld.trans hxf) (fun hHeld => ?_)
    clear hK K
    try simp only [Act.put, List.setIfInBounds_toArray, List.set_cons_zero, List.set_cons_succ]
    refine held_on (i := 27) (d := (some 93)) (v := ?_) rfl rfl (by kernel_rfl) (by kernel_rfl) (by kernel_rfl) (fun _ _ _ h => h) (by rfl) hHeld ?_ ?_
    rotate_left
    focus (intro w hSw; have hSc := HSS.out w hSw; clear hSw; go_simp; first | done | with_reducible rfl)
    try simp only [Act.put, List.setIfInBounds_toArray, List.set_cons_zero, List.set_cons_succ]
    refine held_on (i := 28) (d := (some 6)) (v := ?_) rfl rfl (by kernel_rfl) (by kernel_rfl) (by kernel_rfl) (fun _ _ _ h => h) (by rfl) hHeld ?_ ?_
    rotate_left
    focus (intro w hSw; have hSc := HSS.out w hSw; clear hSw; go_simp; first | done | with_reducible rfl)
    try simp only [Act.put, List.setIfInBounds_toArray, List.set_cons_zero, List.set_cons_succ]
    refine wpAnyH_done (by kernel_rfl) ?_ _
    have HXE9 := Lib.hid (HX9.out.trans hHeld)
    clear hHeld
    go_wp2_with fail
    go_ret
    exact ⟨rfl, HXE9.out⟩
end Go.Proofs.YtpapoalgocmlaaaGreat
