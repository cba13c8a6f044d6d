/- value.Same; Tree.Same of any two trees. -/
import Derived.Test.YtpapoalgocmlaaaCmpA
import Derived.Test.YtpapoalgocmlaaaDet
import Derived.Test.YtpapoalgocmlaaaTSameP
namespace Go.Proofs.Ytpapoalgocmlaaa
open Go.RowKit
set_option linter.unusedVariables false
set_option linter.unusedSimpArgs false

theorem valueSame_any {w : World} {x y : Val} {sl so sl' so' : Sl} (h : RV w (Lt w.heap.size) x sl so) (h' : RV w (Lt w.heap.size) y sl' so') :
    Calls Try.prog 120 #[aggV x sl so, aggV y sl' so'] w fun e w' => e = .returned (.bool (decide (cmpV x y = 0))) ∧ Ext w w' := by
  have hc : ∀ W, Ext w W → Calls Try.prog 156 #[aggV x sl so, aggV y sl' so'] W (CmpPost (cmpV x y) W) := fun W hW =>
    cmp_any _ x y (Nat.le_refl _) W _ _ _ _ ((h.agree (hW.agree fun _ h => h)).mono fun i hi => Nat.lt_of_lt_of_le hi hW.size) ((h'.agree (hW.agree fun _ h => h)).mono fun i hi => Nat.lt_of_lt_of_le hi hW.size)
  have HC := Lib.hid hc
  have hb : (cmpV x y == 0) = decide (cmpV x y = 0) := by by_cases h : cmpV x y = 0 <;> simp [h]
  have HB := Lib.hid hb
  clear hc h h' hb
  obtain ⟨k, b, i, t, l, ok, ov⟩ := x
  obtain ⟨k', b', i', t', l', ok', ov'⟩ := y
  go_enter Try.func120, Try.ntmps120
  go_wp2_with fail
  generalize hW0 : World.alloc (World.alloc _ _) _ = W0
  obtain ⟨hx0, hz0, hb0, hb1⟩ := two_blocks w _ _ _ _ W0 hW0
  clear hW0
  refine (HC.out _ hx0).mono ?_
  rintro e w1 ⟨rfl, hx⟩
  go_wp2_with fail
  go_ret
  exact ⟨rfl, hx0.trans hx⟩
theorem same1_any {w : World} {x y : LE} (h : RV w (Lt w.heap.size) x.v x.sl x.so) (h' : RV w (Lt w.heap.size) y.v y.sl y.so) :
    Calls Try.prog 119 #[aggE x.k x.v x.sl x.so, aggE y.k y.v y.sl y.so] w fun e w' => e = .returned (.bool (decide (x.k = y.k) && decide (cmpV x.v y.v = 0))) ∧ Ext w w' := by
  have hc : ∀ W, Ext w W → Calls Try.prog 120 #[aggV x.v x.sl x.so, aggV y.v y.sl y.so] W fun e w' => e = .returned (.bool (decide (cmpV x.v y.v = 0))) ∧ Ext W w' := fun W hW =>
    valueSame_any ((h.agree (hW.agree fun _ h => h)).mono fun i hi => Nat.lt_of_lt_of_le hi hW.size) ((h'.agree (hW.agree fun _ h => h)).mono fun i hi => Nat.lt_of_lt_of_le hi hW.size)
  have HC := Lib.hid hc
  clear hc h h'
  obtain ⟨k, v, sl, so⟩ := x
  obtain ⟨k', v', sl', so'⟩ := y
  dsimp only at HC ⊢
  by_cases hk : k = k'
  · subst hk
    have hkb : (k.toList == k.toList) = true := by simp
    rw [decide_eq_true (rfl : k = k), Bool.true_and]
    go_enter Try.func119, Try.ntmps119
    go_wp2_with fail
    generalize hW0 : World.alloc (World.alloc _ _) _ = W0
    obtain ⟨hx0, hz0, hb0, hb1⟩ := two_blocks w _ _ _ _ W0 hW0
    clear hW0
    refine (HC.out _ hx0).mono ?_
    rintro e w1 ⟨rfl, hx⟩
    go_wp2_with fail
    go_ret
    exact ⟨rfl, hx0.trans hx⟩
  · have hkb : (k.toList == k'.toList) = false := by rw [beq_toList]; exact decide_eq_false hk
    rw [decide_eq_false hk, Bool.false_and]
    clear hk
    go_enter Try.func119, Try.ntmps119
    go_wp2_with fail
    generalize hW0 : World.alloc (World.alloc _ _) _ = W0
    obtain ⟨hx0, hz0, hb0, hb1⟩ := two_blocks w _ _ _ _ W0 hW0
    go_ret
    exact ⟨rfl, hx0⟩
set_option maxRecDepth 100000 in
set_option maxHeartbeats 2000000 in
theorem equalFunc_any {w : World} {s s' : Sl} {xs ys : List LE} (hs : ES w (Lt w.heap.size) s xs) (hs' : ES w (Lt w.heap.size) s' ys) :
    Calls Try.prog 118 #[.slice s.a xs.length s.c, .slice s'.a ys.length s'.c, .func (.func 119) #[] #[]] w fun e w' => e = .returned (.bool (sameE (xs.map LE.ent) (ys.map LE.ent))) ∧ Ext w w' := by
  have hf := hs.few
  have hnl : xs.length ≤ 140737488355328 := by omega
  by_cases hlen : xs.length = ys.length
  · have HS := Lib.hid hs
    have HS' := Lib.hid hs'
    have HLEN := Lib.hid hlen
    rw [← hlen]
    clear hs hs' hlen hf
    go_enter Try.func118, Try.ntmps118
    go_wp2_with fail
    go_loopw [17] (fun q wr => ∃ j : Nat, q = .int .i64 j ∧ j ≤ xs.length ∧ sameE (xs.map LE.ent) (ys.map LE.ent) = sameE ((xs.map LE.ent).drop j) ((ys.map LE.ent).drop j) ∧ Ext w wr) (fun q _ => xs.length - (intOf q).toNat)
    case atStart => exact ⟨0, rfl, Nat.zero_le _, rfl, Ext.refl w⟩
    case round =>
      obtain ⟨j, rfl, hjl, hp, hx⟩ := hrel
      have HP := Lib.hid hp
      have HX := Lib.hid hx
      by_cases h1 : j < xs.length
      · have g1 : (j : Int) < (xs.length : Int) := by omega
        obtain ⟨x, hxx⟩ : ∃ x, xs[j]? = some x := ⟨_, List.getElem?_eq_getElem h1⟩
        obtain ⟨y, hyy⟩ : ∃ y, ys[j]? = some y := ⟨_, List.getElem?_eq_getElem (by rw [← HLEN.out]; exact h1)⟩
        have HD := Lib.hid (sameE_drop (l := xs.map LE.ent) (m := ys.map LE.ent) (a := x.ent) (b := y.ent) (by rw [List.getElem?_map, hxx]; rfl) (by rw [List.getElem?_map, hyy]; rfl))
        have e1 := HS.out.ext hx
        have e2 := HS'.out.ext hx
        obtain ⟨g, o, hg, lg, hc, hcm, kx, ⟨v0, v1, v2, v3, v4, v5⟩, rx, -⟩ := e1.at hxx
        obtain ⟨g', o', hg', lg', hc', hcm', ky, ⟨v0', v1', v2', v3', v4', v5'⟩, ry, -⟩ := e2.at hyy
        rw [← HLEN.out] at hc'
        obtain ⟨sa, sc⟩ := s
        obtain ⟨sa', sc'⟩ := s'
        dsimp only at hg hg' hc hc' hcm hcm'
        subst hg hg'
        have hic : ∀ W, Ext wr W → Calls Try.prog 119 #[aggE x.k x.v x.sl x.so, aggE y.k y.v y.sl y.so] W fun e w' => e = .returned (.bool (decide (x.k = y.k) && decide (cmpV x.v y.v = 0))) ∧ Ext W w' := fun W hW =>
          same1_any ((rx.agree (hW.agree fun _ h => h)).mono fun i hi => Nat.lt_of_lt_of_le hi hW.size) ((ry.agree (hW.agree fun _ h => h)).mono fun i hi => Nat.lt_of_lt_of_le hi hW.size)
        have HIC := Lib.hid hic
        have lg : g < wr.heap.size := lg
        have lg' : g' < wr.heap.size := lg'
        clear hp hx hxx hyy e1 e2 rx ry hic
        go_wp2_with fail
        generalize hW0 : World.alloc (World.alloc _ _) _ = W0
        obtain ⟨hx0, hz0, hb0, hb1⟩ := two_blocks wr _ _ _ _ W0 hW0
        clear hW0
        refine (HIC.out _ hx0).mono ?_
        rintro e w2 ⟨rfl, hx2⟩
        have HX2 := Lib.hid ((HX.out.trans hx0).trans hx2)
        clear hx2 hx0 hb0 hb1 kx ky v0 v1 v2 v3 v4 v5 v0' v1' v2' v3' v4' v5'
        cases hq : (decide (x.k = y.k) && decide (cmpV x.v y.v = 0)) with
        | true =>
          have HQ := Lib.hid hq
          clear hq
          go_wp2_with fail
          go_roundw
          case rel => exact ⟨j + 1, by go_num, h1, by rw [HP.out, HD.out, show (decide (x.ent.1 = y.ent.1) && decide (cmpV x.ent.2 y.ent.2 = 0)) = true from HQ.out, Bool.true_and], HX2.out⟩
          case measure => simp [intOf]; omega
        | false =>
          have HQ := Lib.hid hq
          clear hq
          go_wp2_with fail
          go_ret
          exact ⟨by rw [HP.out, HD.out, show (decide (x.ent.1 = y.ent.1) && decide (cmpV x.ent.2 y.ent.2 = 0)) = false from HQ.out, Bool.false_and]; rfl, HX2.out⟩
      · obtain rfl : j = xs.length := by omega
        clear hp hx
        go_wp2_with fail
        go_ret
        refine ⟨?_, HX.out⟩
        rw [HP.out, List.drop_eq_nil_of_le (by simp), List.drop_eq_nil_of_le (by simp [HLEN.out])]; rfl
  · have hne : ((xs.length : Int) != (ys.length : Int)) = true := bne_iff_ne.2 (by omega)
    have HE := Lib.hid (sameE_ne (l := xs.map LE.ent) (m := ys.map LE.ent) (by simpa using hlen))
    clear hs hs' hlen hf
    go_enter Try.func118, Try.ntmps118
    go_wp2_with fail
    go_ret
    exact ⟨by rw [HE.out]; rfl, Ext.refl w⟩
theorem IsT.leads {w : World} {F : Nat → Prop} {T : RT} (h : IsT w F T) {p : Option Addr} (hp : rootV T = .pointer p) : Leads w p := by
  intro a ha
  subst ha
  match T, h, hp with
  | none, _, hp => simp [rootV] at hp
  | some ⟨n, t⟩, h, hp =>
    have h : IsN w F n t := h
    obtain ⟨-, _, _, _, _, -, hb⟩ := h.cells
    have e : a = ⟨addr n t, 0, none⟩ := by simpa [rootV, ptr] using hp.symm
    subst e
    exact ⟨_, _, hb⟩
set_option maxRecDepth 100000 in
set_option maxHeartbeats 2000000 in
theorem treeSame_any {w : World} {F F' : Nat → Prop} {T U : RT} (hF : ∀ b, F b → b < w.heap.size) (hF' : ∀ b, F' b → b < w.heap.size) (hT : IsT w F T) (hU : IsT w F' U) (ok : OkR T) (ok' : OkR U) (hl : (entsT T).length ≤ 1000000) (hl' : (entsT U).length ≤ 1000000) :
    Calls Try.prog 76 #[treeV T, treeV U] w fun e w' => e = .returned (.bool (sameE (entsT T) (entsT U))) ∧ Ext w w' := by
  obtain ⟨p, hp⟩ := rootV_ptr T
  obtain ⟨q, hq⟩ := rootV_ptr U
  have hil : ∀ W, Ext w W → Calls Try.prog 35 #[.agg #[.pointer p], .agg #[.pointer q]] W fun e w' => e = .returned (.bool (decide (p = q))) ∧ Ext W w' := fun W hW => is_any W p q ((hT.leads hp).ext hW) ((hU.leads hq).ext hW)
  have hlT : ∀ W, Ext w W → Calls Try.prog 78 #[.agg #[.pointer p]] W fun e w' => e = .returned (.int .i64 (entsT T).length) ∧ Ext W w' := fun W hW => by
    have := treeLen_any (fun b hb => Nat.lt_of_lt_of_le (hF b hb) hW.size) (hT.agree (hW.agree hF))
    rwa [treeV, hp] at this
  have hlU : ∀ W, Ext w W → Calls Try.prog 78 #[.agg #[.pointer q]] W fun e w' => e = .returned (.int .i64 (entsT U).length) ∧ Ext W w' := fun W hW => by
    have := treeLen_any (fun b hb => Nat.lt_of_lt_of_le (hF' b hb) hW.size) (hU.agree (hW.agree hF'))
    rwa [treeV, hq] at this
  have heT : ∀ W, Ext w W → Calls Try.prog 38 #[.agg #[.pointer p]] W (EntriesPost (entsT T) W) := fun W hW => by
    have := treeEntries_any (fun b hb => Nat.lt_of_lt_of_le (hF b hb) hW.size) (hT.agree (hW.agree hF)) ok hl
    rwa [treeV, hp] at this
  have heU : ∀ W, Ext w W → Calls Try.prog 38 #[.agg #[.pointer q]] W (EntriesPost (entsT U) W) := fun W hW => by
    have := treeEntries_any (fun b hb => Nat.lt_of_lt_of_le (hF' b hb) hW.size) (hU.agree (hW.agree hF')) ok' hl'
    rwa [treeV, hq] at this
  have hdet : p = q → sameE (entsT T) (entsT U) = true := fun e => by
    rw [hT.det hU (by rw [hp, hq, e]), sameE_refl]
  rw [treeV, treeV, hp, hq]
  have HIL := Lib.hid hil
  have HLT := Lib.hid hlT
  have HLU := Lib.hid hlU
  have HET := Lib.hid heT
  have HEU := Lib.hid heU
  have HDET := Lib.hid hdet
  clear hil hlT hlU heT heU hdet hp hq hF hF' hT hU ok ok' hl hl'
  obtain ⟨r, hr⟩ : ∃ r, sameE (entsT T) (entsT U) = r := ⟨_, rfl⟩
  have HR := Lib.hid hr
  rw [hr]
  clear hr
  by_cases hpq : p = q
  · obtain rfl : r = true := by rw [← HR.out]; exact HDET.out hpq
    subst hpq
    clear HIL
    go_enter Try.func76, Try.ntmps76
    go_wp2_with fail
    generalize hW0 : World.alloc (World.alloc _ _) _ = W0
    obtain ⟨hx0, hz0, hb0, hb1⟩ := two_blocks w _ _ _ _ W0 hW0
    clear hW0
    refine (is_same W0 p).mono ?_
    rintro e w1 ⟨rfl, hx⟩
    go_wp2_with fail
    go_ret
    exact ⟨rfl, hx0.trans hx⟩
  · have hd : decide (p = q) = false := decide_eq_false hpq
    rw [hd] at HIL
    clear hd
    go_enter Try.func76, Try.ntmps76
    go_wp2_with fail
    generalize hW0 : World.alloc (World.alloc _ _) _ = W0
    obtain ⟨hx0, hz0, hb0, hb1⟩ := two_blocks w _ _ _ _ W0 hW0
    clear hW0
    refine (HIL.out _ hx0).mono ?_
    rintro e w1 ⟨rfl, hx1⟩
    have HX1 := Lib.hid (hx0.trans hx1)
    have hbp := hb0.ext hx1
    have hbq := hb1.ext hx1
    have HSS := Lib.hid (show ∀ W, Ext w1 W → W.cell? ⟨w.heap.size, 0, none⟩ = some (.pointer p) ∧ W.cell? ⟨w.heap.size + 1, 0, none⟩ = some (.pointer q) from fun W hW => ⟨(hbp.ext hW).cell 0, (hbq.ext hW).cell 0⟩)
    clear hx0 hx1 hb0 hb1 hbp hbq
    by_cases hlen : (entsT T).length = (entsT U).length
    · have hlb : ((entsT U).length : Int) = ((entsT U).length : Int) := rfl
      rw [hlen] at HLT
      go_wp2_with fail
      refine wp_region_held_drew (S := (fun w' => Ext w1 w')) (by kernel_rfl) (((Ext.refl w1).drew)) (fun hHeld => ?_)
      refine held_on (i := 0) (d := (some 8)) (v := ?_) rfl rfl (by kernel_rfl) (by kernel_rfl) (by kernel_rfl) (fun _ _ _ h => h) (by rfl) hHeld ?_ ?_
      rotate_left
      focus (intro w hSw; have hSc := HSS.out w hSw; clear hSw; go_simp; first | done | with_reducible rfl)
      try simp only [Act.put, List.setIfInBounds_toArray, List.set_cons_zero, List.set_cons_succ]
      refine held_on (i := 2) (d := (some 10)) (v := ?_) rfl rfl (by kernel_rfl) (by kernel_rfl) (by kernel_rfl) (fun _ _ _ h => h) (by rfl) hHeld ?_ ?_
      rotate_left
      focus (intro w hSw; have hSc := HSS.out w hSw; clear hSw; go_simp; first | done | with_reducible rfl)
      try simp only [Act.put, List.setIfInBounds_toArray, List.set_cons_zero, List.set_cons_succ]
      refine held_call (i := 1) (by kernel_rfl) rfl (by rfl) (fun K hK => ?_)
      go_simp
      (refine (HLT.out _ (HX1.out.trans hHeld)).mono ?_; rintro e wa ⟨rfl, hxa⟩)
      refine hK.out _ _ (hHeld.trans hxa) (fun hHeld => ?_)
      clear hK K
      try simp only [Act.put, List.setIfInBounds_toArray, List.set_cons_zero, List.set_cons_succ]
      refine held_call (i := 3) (by kernel_rfl) rfl (by rfl) (fun K hK => ?_)
      go_simp
      (refine (HLU.out _ (HX1.out.trans hHeld)).mono ?_; rintro e wb ⟨rfl, hxb⟩)
      refine hK.out _ _ (hHeld.trans hxb) (fun hHeld => ?_)
      clear hK K
      try simp only [Act.put, List.setIfInBounds_toArray, List.set_cons_zero, List.set_cons_succ]
      refine held_on (i := 4) (d := (some 12)) (v := ?_) rfl rfl (by kernel_rfl) (by kernel_rfl) (by kernel_rfl) (fun _ _ _ h => h) (by rfl) hHeld ?_ ?_
      rotate_left
      focus (intro w hSw; have hSc := HSS.out w hSw; clear hSw; go_simp; first | done | with_reducible rfl)
      try simp only [Act.put, List.setIfInBounds_toArray, List.set_cons_zero, List.set_cons_succ]
      refine held_on (i := 5) (d := (some 13)) (v := ?_) rfl rfl (by kernel_rfl) (by kernel_rfl) (by kernel_rfl) (fun _ _ _ h => h) (by rfl) hHeld ?_ ?_
      rotate_left
      focus (intro w hSw; have hSc := HSS.out w hSw; clear hSw; go_simp; first | done | with_reducible rfl)
      try simp only [Act.put, List.setIfInBounds_toArray, List.set_cons_zero, List.set_cons_succ]
      refine held_on (i := 6) (d := (some 14)) (v := ?_) rfl rfl (by kernel_rfl) (by kernel_rfl) (by kernel_rfl) (fun _ _ _ h => h) (by rfl) hHeld ?_ ?_
      rotate_left
      focus (intro w hSw; have hSc := HSS.out w hSw; clear hSw; go_simp; first | done | with_reducible rfl)
      try simp only [Act.put, List.setIfInBounds_toArray, List.set_cons_zero, List.set_cons_succ]
      refine held_on (i := 8) (d := (some 16)) (v := ?_) rfl rfl (by kernel_rfl) (by kernel_rfl) (by kernel_rfl) (fun _ _ _ h => h) (by rfl) hHeld ?_ ?_
      rotate_left
      focus (intro w hSw; have hSc := HSS.out w hSw; clear hSw; go_simp; first | done | with_reducible rfl)
      try simp only [Act.put, List.setIfInBounds_toArray, List.set_cons_zero, List.set_cons_succ]
      refine held_call (i := 7) (by kernel_rfl) rfl (by rfl) (fun K hK => ?_)
      go_simp
      (refine (HET.out _ (HX1.out.trans hHeld)).mono ?_; rintro e wc ⟨sc, yc, rfl, hyc, hoc, hxc⟩; have HYC := Lib.hid hyc; have HOC := Lib.hid hoc; clear hyc hoc)
      refine hK.out _ _ (hHeld.trans hxc) (fun hHeld => ?_)
      clear hK K
      try simp only [Act.put, List.setIfInBounds_toArray, List.set_cons_zero, List.set_cons_succ]
      refine held_call (i := 9) (by kernel_rfl) rfl (by rfl) (fun K hK => ?_)
      go_simp
      (refine (HEU.out _ (HX1.out.trans hHeld)).mono ?_; rintro e we ⟨se, ye, rfl, hye, hoe, hxe⟩; have hef := equalFunc_any ((HOC.out.es.mono (G := Lt wc.heap.size) fun i hi => hi.2).ext hxe) (hoe.es.mono (G := Lt we.heap.size) fun i hi => hi.2); rw [hye, HYC.out, HR.out] at hef; have HEF := Lib.hid hef; clear hye hoe hef)
      refine hK.out _ _ (hHeld.trans hxe) (fun hHeld => ?_)
      clear hK K
      try simp only [Act.put, List.setIfInBounds_toArray, List.set_cons_zero, List.set_cons_succ]
      refine held_call (i := 10) (by kernel_rfl) rfl (by rfl) (fun K hK => ?_)
      go_simp
      (refine HEF.out.mono ?_; rintro e wf ⟨rfl, hxf⟩)
      refine hK.out _ _ (hHeld.trans hxf) (fun hHeld => ?_)
      clear hK K
      try simp only [Act.put, List.setIfInBounds_toArray, List.set_cons_zero, List.set_cons_succ]
      refine held_on (i := 11) (d := (some 19)) (v := ?_) rfl rfl (by kernel_rfl) (by kernel_rfl) (by kernel_rfl) (fun _ _ _ h => h) (by rfl) hHeld ?_ ?_
      rotate_left
      focus (intro w hSw; have hSc := HSS.out w hSw; clear hSw; go_simp; first | done | with_reducible rfl)
      try simp only [Act.put, List.setIfInBounds_toArray, List.set_cons_zero, List.set_cons_succ]
      refine held_on (i := 12) (d := (some 4)) (v := ?_) rfl rfl (by kernel_rfl) (by kernel_rfl) (by kernel_rfl) (fun _ _ _ h => h) (by rfl) hHeld ?_ ?_
      rotate_left
      focus (intro w hSw; have hSc := HSS.out w hSw; clear hSw; go_simp; first | done | with_reducible rfl)
      try simp only [Act.put, List.setIfInBounds_toArray, List.set_cons_zero, List.set_cons_succ]
      refine wpAnyH_done (by kernel_rfl) ?_ _
      have HX := Lib.hid (HX1.out.trans hHeld)
      clear hHeld
      go_wp2_with fail
      go_ret
      exact ⟨rfl, HX.out⟩
    · obtain rfl : r = false := by rw [← HR.out]; exact sameE_ne hlen
      have hlb : (((entsT T).length : Int) == ((entsT U).length : Int)) = false := beq_eq_false_iff_ne.2 (by omega)
      clear hlen
      go_wp2_with fail
      refine wp_region_held_drew (S := (fun w' => Ext w1 w')) (by kernel_rfl) (((Ext.refl w1).drew)) (fun hHeld => ?_)
      refine held_on (i := 0) (d := (some 8)) (v := ?_) rfl rfl (by kernel_rfl) (by kernel_rfl) (by kernel_rfl) (fun _ _ _ h => h) (by rfl) hHeld ?_ ?_
      rotate_left
      focus (intro w hSw; have hSc := HSS.out w hSw; clear hSw; go_simp; first | done | with_reducible rfl)
      try simp only [Act.put, List.setIfInBounds_toArray, List.set_cons_zero, List.set_cons_succ]
      refine held_on (i := 2) (d := (some 10)) (v := ?_) rfl rfl (by kernel_rfl) (by kernel_rfl) (by kernel_rfl) (fun _ _ _ h => h) (by rfl) hHeld ?_ ?_
      rotate_left
      focus (intro w hSw; have hSc := HSS.out w hSw; clear hSw; go_simp; first | done | with_reducible rfl)
      try simp only [Act.put, List.setIfInBounds_toArray, List.set_cons_zero, List.set_cons_succ]
      refine held_call (i := 1) (by kernel_rfl) rfl (by rfl) (fun K hK => ?_)
      go_simp
      (refine (HLT.out _ (HX1.out.trans hHeld)).mono ?_; rintro e wa ⟨rfl, hxa⟩)
      refine hK.out _ _ (hHeld.trans hxa) (fun hHeld => ?_)
      clear hK K
      try simp only [Act.put, List.setIfInBounds_toArray, List.set_cons_zero, List.set_cons_succ]
      refine held_call (i := 3) (by kernel_rfl) rfl (by rfl) (fun K hK => ?_)
      go_simp
      (refine (HLU.out _ (HX1.out.trans hHeld)).mono ?_; rintro e wb ⟨rfl, hxb⟩)
      refine hK.out _ _ (hHeld.trans hxb) (fun hHeld => ?_)
      clear hK K
      try simp only [Act.put, List.setIfInBounds_toArray, List.set_cons_zero, List.set_cons_succ]
      refine held_on (i := 4) (d := (some 12)) (v := ?_) rfl rfl (by kernel_rfl) (by kernel_rfl) (by kernel_rfl) (fun _ _ _ h => h) (by rfl) hHeld ?_ ?_
      rotate_left
      focus (intro w hSw; have hSc := HSS.out w hSw; clear hSw; go_simp; first | done | with_reducible rfl)
      try simp only [Act.put, List.setIfInBounds_toArray, List.set_cons_zero, List.set_cons_succ]
      refine held_on (i := 5) (d := (some 13)) (v := ?_) rfl rfl (by kernel_rfl) (by kernel_rfl) (by kernel_rfl) (fun _ _ _ h => h) (by rfl) hHeld ?_ ?_
      rotate_left
      focus (intro w hSw; have hSc := HSS.out w hSw; clear hSw; go_simp; first | done | with_reducible rfl)
      try simp only [Act.put, List.setIfInBounds_toArray, List.set_cons_zero, List.set_cons_succ]
      refine held_off (i := 6) (d := (some 14)) rfl rfl (by kernel_rfl) (by kernel_rfl) (by kernel_rfl) (fun _ _ _ h => h) (by rfl) hHeld ?_
      try simp only [Act.put, List.setIfInBounds_toArray, List.set_cons_zero, List.set_cons_succ]
      refine held_off (i := 7) (d := (some 15)) rfl rfl (by kernel_rfl) (by kernel_rfl) (by kernel_rfl) (fun _ _ _ h => h) (by rfl) hHeld ?_
      try simp only [Act.put, List.setIfInBounds_toArray, List.set_cons_zero, List.set_cons_succ]
      refine held_off (i := 8) (d := (some 16)) rfl rfl (by kernel_rfl) (by kernel_rfl) (by kernel_rfl) (fun _ _ _ h => h) (by rfl) hHeld ?_
      try simp only [Act.put, List.setIfInBounds_toArray, List.set_cons_zero, List.set_cons_succ]
      refine held_off (i := 9) (d := (some 17)) rfl rfl (by kernel_rfl) (by kernel_rfl) (by kernel_rfl) (fun _ _ _ h => h) (by rfl) hHeld ?_
      try simp only [Act.put, List.setIfInBounds_toArray, List.set_cons_zero, List.set_cons_succ]
      refine held_off (i := 10) (d := (some 18)) rfl rfl (by kernel_rfl) (by kernel_rfl) (by kernel_rfl) (fun _ _ _ h => h) (by rfl) hHeld ?_
      try simp only [Act.put, List.setIfInBounds_toArray, List.set_cons_zero, List.set_cons_succ]
      refine held_on (i := 11) (d := (some 19)) (v := ?_) rfl rfl (by kernel_rfl) (by kernel_rfl) (by kernel_rfl) (fun _ _ _ h => h) (by rfl) hHeld ?_ ?_
      rotate_left
      focus (intro w hSw; have hSc := HSS.out w hSw; clear hSw; go_simp; first | done | with_reducible rfl)
      try simp only [Act.put, List.setIfInBounds_toArray, List.set_cons_zero, List.set_cons_succ]
      refine held_on (i := 12) (d := (some 4)) (v := ?_) rfl rfl (by kernel_rfl) (by kernel_rfl) (by kernel_rfl) (fun _ _ _ h => h) (by rfl) hHeld ?_ ?_
      rotate_left
      focus (intro w hSw; have hSc := HSS.out w hSw; clear hSw; go_simp; first | done | with_reducible rfl)
      try simp only [Act.put, List.setIfInBounds_toArray, List.set_cons_zero, List.set_cons_succ]
      refine wpAnyH_done (by kernel_rfl) ?_ _
      have HX := Lib.hid (HX1.out.trans hHeld)
      clear hHeld
      go_wp2_with fail
      go_ret
      exact ⟨rfl, HX.out⟩
end Go.Proofs.Ytpapoalgocmlaaa
