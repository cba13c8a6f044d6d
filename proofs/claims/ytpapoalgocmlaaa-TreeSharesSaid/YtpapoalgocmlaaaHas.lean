/- tree.has, tree.fresh, Fresh. -/
import Derived.Test.YtpapoalgocmlaaaMf
import Derived.Test.YtpapoalgocmlaaaMg
namespace Go.Proofs.Ytpapoalgocmlaaa
open Go.RowKit
set_option linter.unusedVariables false
set_option linter.unusedSimpArgs false
/-- The height that a node's block tells. -/
def hOf (w : World) : Value → Nat
  | .pointer (some p) => match w.cell? ⟨p.block, 2, none⟩ with
    | some v => (intOf v).toNat
    | none => 0
  | _ => 0
theorem hOf_ptr {w : World} {F : Nat → Prop} {h : Nat} {t : PT h} (hn : IsN w F h t) : hOf w (ptr h t) = h := by
  obtain ⟨-, se, sk, ne, nk, -, hb⟩ := hn.cells
  have := hb.c7.2.2.1
  simp [hOf, this, intOf]
theorem findT_step {key : ByteArray} {k h : Nat} {t : PT (h + 1)} {kid : PT h} (hk : k < h + 1) (hkid : t.2[whichK h t.2 key]? = some kid) : findT key k (h + 1) t = findT key k h kid := by
  simp only [findT, hk, if_true, hkid]
theorem findT_at {key : ByteArray} {k : Nat} : ∀ {h : Nat} {t : PT h}, ¬ k < h → findT key k h t = addr h t
  | 0, _, _ => rfl
  | h + 1, t, hk => by simp only [findT, hk, if_false]
set_option maxRecDepth 100000 in
set_option maxHeartbeats 4000000 in
theorem has_some {w : World} {F G : Nat → Prop} {h0 : Nat} {t0 : PT h0} {k : Nat} {u : PT k} (hF : ∀ b, F b → b < w.heap.size) (hn : IsN w F h0 t0) (ok : OkT h0 t0) (hs : Sorted (ents h0 t0)) (hc : (ents h0 t0).length ≤ 1000000) (hh0 : h0 < 1000000) (hG : ∀ b, G b → b < w.heap.size) (hu : IsN w G k u) :
    Calls Try.prog 153 #[ptr h0 t0, ptr k u] w fun e w' => e = .returned (.bool (decide (findT (firstK (ents k u)) k h0 t0 = addr k u))) ∧ Ext w w' := by
  have HU := Lib.hid (fun (W : World) (hW : Ext w W) => hu.agree (hW.agree hG))
  have HF := Lib.hid hF
  obtain ⟨j, hj, hz⟩ := is_info
  have H0 := Lib.hid (show IsN w F h0 t0 ∧ OkT h0 t0 ∧ Sorted (ents h0 t0) ∧ (ents h0 t0).length ≤ 1000000 ∧ h0 < 1000000 from ⟨hn, ok, hs, hc, hh0⟩)
  clear hF hn ok hs hc hG hu hh0
  go_enter Try.func153, Try.ntmps153
  go_wp2_with fail
  go_loopw [0] (fun v wr => ∃ (h : Nat) (t : PT h), v = ptr h t ∧ IsN wr F h t ∧ OkT h t ∧ Sorted (ents h t) ∧ (ents h t).length ≤ 1000000 ∧ h < 1000000 ∧ findT (firstK (ents k u)) k h t = findT (firstK (ents k u)) k h0 t0 ∧ Ext w wr) (fun v wr => hOf wr v)
  case atStart => exact ⟨h0, t0, rfl, H0.out.1, H0.out.2.1, H0.out.2.2.1, H0.out.2.2.2.1, H0.out.2.2.2.2, rfl, Ext.refl _⟩
  case round =>
    obtain ⟨h, t, rfl, hn, ok, hs, hc, hh, hf, hX⟩ := hrel
    have hu := HU.out _ hX
    have HN := Lib.hid hn
    have HX := Lib.hid hX
    have HFD := Lib.hid hf
    have HUW := Lib.hid hu
    have HOK := Lib.hid ok
    have HS := Lib.hid hs
    have hm := hOf_ptr hn
    have hht := height_any hn
    have hhu := height_any hu
    have HM := Lib.hid hm
    clear hX hf hn hu ok hs hm
    go_wp2_with fail
    refine hht.mono ?_
    rintro e w1 ⟨rfl, rfl⟩
    clear hht
    go_wp2_with fail
    refine hhu.mono ?_
    rintro e w1 ⟨rfl, rfl⟩
    clear hhu
    by_cases hgt : k < h
    · obtain ⟨h, rfl⟩ : ∃ h', h = h' + 1 := ⟨h - 1, by omega⟩
      have hgt' : (k : Int) < (h : Int) + 1 := by omega
      have hpos := kids_pos HOK.out
      obtain ⟨kid, hkid, -, -⟩ := which_split (h := h) (ks := t.2) HS.out hpos (by have := HOK.out.1; omega) (firstK (ents k u))
      have hkm := List.mem_of_getElem? hkid
      have hil := (List.getElem?_eq_some_iff.1 hkid).1
      have hlen8 := HOK.out.2.1
      have hks : ∀ x ∈ t.2, IsN wr F h x := HN.out.2.choose_spec.2.2
      have hkc : (ents h kid).length ≤ 1000000 := Nat.le_trans (by
        show _ ≤ (t.2.flatMap (ents h)).length
        rw [take_mid hkid]; simp only [List.flatMap_append, List.flatMap_cons, List.length_append]; omega) hc
      have hkc2 := kids_any HN.out (by omega)
      have hfst := fun (W : World) (hW : Ext wr W) => HU.out W (HX.out.trans hW)
      go_wp2_with fail
      refine hkc2.mono ?_
      rintro e w1 ⟨s', rfl, hown, hx1⟩
      have hrd : Rd w1 (Lt w1.heap.size) 1 s' t.2.length (ptrs h t.2) := (Rd.of_own hown).mono fun i hi => hi.2
      obtain ⟨g, cap, rfl, hbg, hnc, hcm, hfil⟩ := own_block hown (by omega)
      obtain ⟨i, hi⟩ : ∃ i, whichK h t.2 (firstK (ents k u)) = i := ⟨_, rfl⟩
      have hwh : Calls Try.prog 138 #[.slice (some ⟨g, 0, none⟩) t.2.length cap, .string (firstK (ents k u))] w1 fun e w' => e = .returned (.int .i64 i) ∧ Ext w1 w' := by
        rw [← hi]
        exact which_any (s := ⟨some ⟨g, 0, none⟩, cap⟩) hrd (fun x hx => (hks x hx).agree (hx1.agree fun b hb => Nat.lt_of_lt_of_le (HF.out b hb) HX.out.size)) (fun b hb => Nat.lt_of_lt_of_le (HF.out b hb) (HX.out.trans hx1).size) hpos _ HS.out (by omega)
      have hkid' := hkid
      rw [hi] at hkid hil
      obtain ⟨b, o, hba, hbl, -, -, hbc⟩ := hrd.ptr_at hkid
      obtain ⟨rfl, rfl⟩ : g = b ∧ 0 = o := by simpa using hba
      have kc : w1.cell? ⟨g, i, none⟩ = some (ptr h kid) := by simpa using hbc
      have hg1 : g < w1.heap.size := hbl
      have hii : (i : Int) < (t.2.length : Int) := by omega
      have hi0 : (0 : Int) ≤ (i : Int) := by omega
      have hf1 := first_any (hfst w1 hx1)
      have HREL := Lib.hid (show OkT h kid ∧ Sorted (ents h kid) ∧ findT (firstK (ents k u)) k h kid = findT (firstK (ents k u)) k h0 t0 ∧ IsN wr F h kid from ⟨(HOK.out.2.2 kid hkm).1, kid_sorted HS.out kid hkm, by rw [← HFD.out, findT_step hgt hkid'], hks kid hkm⟩)
      have HX1 := Lib.hid hx1
      clear hpos hks hkc2 hfst hown hrd hfil hbc hba hkid hkid' hx1 hkm hi hlen8
      go_wp2_with fail
      refine hf1.mono ?_
      rintro e w2 ⟨rfl, rfl⟩
      clear hf1
      go_wp2_with fail
      refine hwh.mono ?_
      rintro e w2 ⟨rfl, hx2⟩
      replace kc := (hx2.cell hg1).trans kc
      have HX2 := Lib.hid hx2
      clear hx2 hwh
      go_wp2_with fail
      have hnk : IsN w2 F h kid := HREL.out.2.2.2.agree ((HX1.out.trans HX2.out).agree fun b hb => Nat.lt_of_lt_of_le (HF.out b hb) HX.out.size)
      have HNK := Lib.hid hnk
      clear hnk
      go_roundw
      case rel => exact ⟨h, kid, rfl, HNK.out, HREL.out.1, HREL.out.2.1, hkc, by omega, HREL.out.2.2.1, (HX.out.trans HX1.out).trans HX2.out⟩
      case measure => rw [hOf_ptr HNK.out, HM.out]; omega
    · have hgt' : ¬ (k : Int) < (h : Int) := by omega
      have hbt := HN.out.cells.2.choose_spec.choose_spec.choose_spec.choose_spec.2
      have hbu := HUW.out.cells.2.choose_spec.choose_spec.choose_spec.choose_spec.2
      by_cases he : addr h t = addr k u
      · have hq : ∀ W, (binOp .eql 28 (ptr h t) (ptr k u)).run Try.prog W = .ok (.bool true) W := fun W => by
          show (binOp .eql 28 (.pointer (some ⟨addr h t, 0, none⟩)) (.pointer (some ⟨addr k u, 0, none⟩))).run Try.prog W = _
          rw [he]
          exact run_eql_ptr_same (P := Try.prog) W ⟨addr k u, 0, none⟩ Try.underlying28 hj
        clear hbt hbu
        go_wp2_with fail
        go_ret
        exact ⟨congrArg (fun b => Ending.returned (.bool b)) (a₁ := true) (by rw [← HFD.out, findT_at hgt, decide_eq_true he]), HX.out⟩
      · have hne : (⟨addr h t, 0, none⟩ : Addr) ≠ ⟨addr k u, 0, none⟩ := fun e => he (by simp at e)
        have hq := run_eql_ptr_other (P := Try.prog) wr Try.underlying28 hj hz hne hbt hbu
        clear hbt hbu
        go_wp2_with fail
        go_ret
        exact ⟨congrArg (fun b => Ending.returned (.bool b)) (a₁ := false) (by rw [← HFD.out, findT_at hgt, decide_eq_false he]), HX.out⟩
theorem has_none {w : World} {F : Nat → Prop} {k : Nat} {u : PT k} (hn : IsN w F k u) : Calls Try.prog 153 #[.pointer none, ptr k u] w fun e w' => e = .returned (.bool false) ∧ Ext w w' := by
  have h1 := height_nil w
  have h2 := height_any hn
  have h3 := fun W => eql_nil_some (P := Try.prog) W ⟨addr k u, 0, none⟩ Try.underlying28
  clear hn
  go_enter Try.func153, Try.ntmps153
  go_wp2_with fail
  go_loopw [0] (fun v wr => v = .pointer none ∧ wr = w) (fun _ _ => 0)
  case atStart => exact ⟨rfl, rfl⟩
  case round =>
    obtain ⟨rfl, rfl⟩ := hrel
    go_wp2_with fail
    refine h1.mono ?_
    rintro e w1 ⟨rfl, rfl⟩
    go_wp2_with fail
    refine h2.mono ?_
    rintro e w1 ⟨rfl, rfl⟩
    have g : ¬ (k : Int) < 0 := by omega
    go_wp2_with fail
    go_ret
    exact ⟨rfl, Ext.refl _⟩
theorem has_any {w : World} {F G : Nat → Prop} {T : RT} {k : Nat} {u : PT k} (hF : ∀ b, F b → b < w.heap.size) (hT : IsT w F T) (ok : OkR T) (hc : (entsT T).length ≤ 900000) (hG : ∀ b, G b → b < w.heap.size) (hu : IsN w G k u) :
    Calls Try.prog 153 #[rootV T, ptr k u] w fun e w' => e = .returned (.bool (hasR T k u)) ∧ Ext w w' := by
  match T, hT, ok, hc with
  | none, _, _, _ => exact has_none hu
  | some ⟨h, t⟩, hT, ok, hc => exact has_some hF hT ok.1 ok.2.2 (Nat.le_trans hc (by decide)) (Nat.lt_of_lt_of_le (height_lt h t ok.1 ok.2.1) (Nat.le_trans hc (by decide))) hG hu
/-! ### How many are fresh -/
theorem freshN_le {has : (k : Nat) → PT k → Bool} : ∀ (h : Nat) (u : PT h), OkT h u → 1 ≤ size h u → freshN has h u ≤ (h + 1) * (ents h u).length
  | 0, u, _, hs => by
    have : 1 ≤ (ents 0 u).length := hs
    simp only [freshN]; split <;> omega
  | h + 1, u, ok, hs => by
    have hp : 0 < (ents (h + 1) u).length := Nat.lt_of_le_of_lt (Nat.zero_le _) (height_lt (h + 1) u ok hs)
    have hk : ∀ (l : List (PT h)), (∀ x ∈ l, freshN has h x ≤ (h + 1) * (ents h x).length) → (l.map (freshN has h)).sum ≤ (h + 1) * (l.flatMap (ents h)).length := fun l => by
      induction l with
      | nil => intro _; exact Nat.zero_le _
      | cons a l ih =>
        intro hl
        have h1 := hl a (List.mem_cons_self ..)
        have h2 := ih fun x hx => hl x (List.mem_cons_of_mem _ hx)
        rw [List.map_cons, List.sum_cons, List.flatMap_cons, List.length_append, Nat.mul_add]
        omega
    have h1 := hk u.2 fun x hx => freshN_le h x (ok.2.2 x hx).1 (by have := (ok.2.2 x hx).2; omega)
    have h2 : (h + 1 + 1) * (ents (h + 1) u).length = (h + 1) * (ents (h + 1) u).length + (ents (h + 1) u).length := Nat.succ_mul _ _
    have h3 : (h + 1) * (ents (h + 1) u).length = (h + 1) * (u.2.flatMap (ents h)).length := rfl
    simp only [freshN]
    split
    · omega
    · omega
theorem sum_take {α : Type} {f : α → Nat} : ∀ {l : List α} {j : Nat} {x : α}, l[j]? = some x → ((l.take (j + 1)).map f).sum = ((l.take j).map f).sum + f x := fun {l j x} h => by
  rw [List.take_add_one, h]
  simp
theorem sum_take_le {α : Type} {f : α → Nat} (l : List α) (j : Nat) : ((l.take j).map f).sum ≤ (l.map f).sum := by
  conv => rhs; rw [← List.take_append_drop j l, List.map_append, List.sum_append]
  omega
set_option maxRecDepth 100000 in
set_option maxHeartbeats 4000000 in
theorem fresh_succ {T : RT} {h : Nat}
    (ih : ∀ (u : PT h) (w : World) (F G : Nat → Prop), (∀ b, F b → b < w.heap.size) → IsT w F T → (∀ b, G b → b < w.heap.size) → IsN w G h u → OkT h u → 1 ≤ size h u → (ents h u).length ≤ 900000 → Calls Try.prog 112 #[rootV T, ptr h u] w fun e w' => e = .returned (.int .i64 (freshN (hasR T) h u)) ∧ Ext w w')
    (ok : OkR T) (hc : (entsT T).length ≤ 900000) {u : PT (h + 1)} {w : World} {F G : Nat → Prop} (hF : ∀ b, F b → b < w.heap.size) (hT : IsT w F T) (hG : ∀ b, G b → b < w.heap.size) (hu : IsN w G (h + 1) u) (oku : OkT (h + 1) u) (hcu : (ents (h + 1) u).length ≤ 900000) :
    Calls Try.prog 112 #[rootV T, ptr (h + 1) u] w fun e w' => e = .returned (.int .i64 (freshN (hasR T) (h + 1) u)) ∧ Ext w w' := by
  have hsz : 1 ≤ size (h + 1) u := by have := oku.1; show 1 ≤ u.2.length; omega
  have hlt := height_lt (h + 1) u oku hsz
  have hb1 := freshN_le (has := hasR T) (h + 1) u oku hsz
  have hbs : 1 + (u.2.map (freshN (hasR T) h)).sum ≤ 900001 * 900000 + 1 := by
    have hk : ∀ (l : List (PT h)), (∀ x ∈ l, freshN (hasR T) h x ≤ (h + 1) * (ents h x).length) → (l.map (freshN (hasR T) h)).sum ≤ (h + 1) * (l.flatMap (ents h)).length := fun l => by
      induction l with
      | nil => intro _; exact Nat.zero_le _
      | cons a l ih =>
        intro hl
        have h1 := hl a (List.mem_cons_self ..)
        have h2 := ih fun x hx => hl x (List.mem_cons_of_mem _ hx)
        rw [List.map_cons, List.sum_cons, List.flatMap_cons, List.length_append, Nat.mul_add]
        omega
    have h1 := hk u.2 fun x hx => freshN_le h x (oku.2.2 x hx).1 (by have := (oku.2.2 x hx).2; omega)
    have h2 : (h + 1) * (u.2.flatMap (ents h)).length ≤ 900001 * 900000 := Nat.mul_le_mul (by omega) hcu
    omega
  have hhas := has_any hF hT ok hc hG hu
  obtain ⟨p, hp⟩ := rootV_ptr T
  rw [hp] at hhas
  have hlen8 := oku.2.1
  have hlen2 := oku.1
  have hks : ∀ x ∈ u.2, IsN w G h x := hu.2.choose_spec.2.2
  have hkl : ∀ x ∈ u.2, (ents h x).length ≤ 900000 := fun x hx => by
    obtain ⟨i, hi⟩ := List.getElem?_of_mem hx
    refine Nat.le_trans ?_ hcu
    show _ ≤ (u.2.flatMap (ents h)).length
    rw [take_mid hi]; simp only [List.flatMap_append, List.flatMap_cons, List.length_append]; omega
  have HIH := Lib.hid (fun (kid : PT h) (hk : kid ∈ u.2) (W : World) (hW : Ext w W) => ih kid W F G (fun b hb => Nat.lt_of_lt_of_le (hF b hb) hW.size) (hT.agree (hW.agree hF)) (fun b hb => Nat.lt_of_lt_of_le (hG b hb) hW.size) ((hks kid hk).agree (hW.agree hG)) (oku.2.2 kid hk).1 (by have := (oku.2.2 kid hk).2; omega) (hkl kid hk))
  have HU := Lib.hid (fun (W : World) (hW : Ext w W) => hu.agree (hW.agree hG))
  have HBS := Lib.hid hbs
  rw [hp] at HIH ⊢
  clear hF hT hG hu hks hkl ih hb1 hlt hbs hp oku hsz hcu hc ok
  go_enter Try.func112, Try.ntmps112
  go_wp2_with fail
  refine hhas.mono ?_
  rintro e w1 ⟨rfl, hx1⟩
  have HX1 := Lib.hid hx1
  have hku := kids_any (HU.out w1 hx1) (by omega)
  cases hhu : hasR T (h + 1) u with
  | true =>
    clear hx1 hku hhas
    go_wp2_with fail
    go_ret
    exact ⟨by simp [freshN, hhu], HX1.out⟩
  | false =>
    clear hx1 hhas
    go_wp2_with fail
    refine hku.mono ?_
    rintro e w2 ⟨s', rfl, hown, hx2⟩
    have hrd : Rd w2 (Lt w2.heap.size) 1 s' u.2.length (ptrs h u.2) := (Rd.of_own hown).mono fun i hi => hi.2
    obtain ⟨g, cap, rfl, hbg, hnc, hcm, hfil⟩ := own_block hown (by omega)
    have HRD := Lib.hid hrd
    have HX2 := Lib.hid (HX1.out.trans hx2)
    have hw0 : w2.heap.size = w2.heap.size := rfl
    clear hown hrd hfil hx2 hku
    go_wp2_with fail
    go_loopw [5, 18] (fun v i wr => ∃ j n : Nat, j ≤ u.2.length ∧ i = .int .i64 j ∧ v = .int .i64 (n : Int) ∧ n = 1 + ((u.2.take j).map (freshN (hasR T) h)).sum ∧ Ext w2 wr) (fun _ i _ => u.2.length - (intOf i).toNat)
    case atStart => exact ⟨0, 1, Nat.zero_le _, rfl, rfl, rfl, Ext.refl _⟩
    case round =>
      obtain ⟨j, n, hj, rfl, rfl, hn, hX⟩ := hrel
      have HN := Lib.hid hn
      have HX := Lib.hid hX
      have hle := sum_take_le (f := freshN (hasR T) h) u.2 j
      have HLE := Lib.hid hle
      by_cases hlt : j < u.2.length
      · obtain ⟨kid, hkid⟩ : ∃ kid, u.2[j]? = some kid := ⟨_, List.getElem?_eq_getElem hlt⟩
        obtain ⟨b, o, hba, hbl, -, -, hbc⟩ := (HRD.out.agree (hX.agree fun _ h => h)).ptr_at hkid
        obtain ⟨rfl, rfl⟩ : g = b ∧ 0 = o := by simpa using hba
        have kc : wr.cell? ⟨g, j, none⟩ = some (ptr h kid) := by simpa using hbc
        have hjl : (j : Int) < (u.2.length : Int) := by omega
        have hic := HIH.out kid (List.mem_of_getElem? hkid) wr (HX2.out.trans hX)
        have hst := sum_take (f := freshN (hasR T) h) hkid
        have hle1 := sum_take_le (f := freshN (hasR T) h) u.2 (j + 1)
        have hbs := HBS.out
        obtain ⟨fk, hfk⟩ : ∃ fk, freshN (hasR T) h kid = fk := ⟨_, rfl⟩
        rw [hfk] at hic hst
        have hn' : n + fk = 1 + ((u.2.take (j + 1)).map (freshN (hasR T) h)).sum := by omega
        have hww : IntKind.i64.wrap ((n : Int) + (fk : Int)) = (n : Int) + (fk : Int) := by
          rw [IntKind.wrap_i64]; omega
        have HN' := Lib.hid hn'
        clear hX hkid hba hbc hle hst hle1 hbs hn hn' hfk
        go_wp2_with fail
        refine hic.mono ?_
        rintro e w3 ⟨rfl, hx3⟩
        have HX3 := Lib.hid hx3
        clear hx3 hic
        go_wp2_with fail
        go_roundw
        case rel => exact ⟨j + 1, n + fk, hlt, by go_num, by go_num, HN'.out, HX.out.trans HX3.out⟩
        case measure => simp [intOf]; omega
      · obtain rfl : j = u.2.length := by omega
        clear hX hn hle
        go_wp2_with fail
        go_ret
        refine ⟨?_, HX2.out.trans HX.out⟩
        have := HN.out
        rw [List.take_length] at this
        rw [this]
        simp [freshN, hhu]
theorem fresh_zero {T : RT} (ok : OkR T) (hc : (entsT T).length ≤ 900000) {u : PT 0} {w : World} {F G : Nat → Prop} (hF : ∀ b, F b → b < w.heap.size) (hT : IsT w F T) (hG : ∀ b, G b → b < w.heap.size) (hu : IsN w G 0 u) :
    Calls Try.prog 112 #[rootV T, ptr 0 u] w fun e w' => e = .returned (.int .i64 (freshN (hasR T) 0 u)) ∧ Ext w w' := by
  have hhas := has_any hF hT ok hc hG hu
  obtain ⟨p, hp⟩ := rootV_ptr T
  rw [hp] at hhas ⊢
  have HU := Lib.hid (fun (W : World) (hW : Ext w W) => hu.agree (hW.agree hG))
  clear hF hT hG hu hp hc ok
  go_enter Try.func112, Try.ntmps112
  go_wp2_with fail
  refine hhas.mono ?_
  rintro e w1 ⟨rfl, hx1⟩
  have HX1 := Lib.hid hx1
  have hku := kids_leaf (HU.out w1 hx1)
  cases hhu : hasR T 0 u with
  | true =>
    clear hx1 hku hhas
    go_wp2_with fail
    go_ret
    exact ⟨by simp [freshN, hhu], HX1.out⟩
  | false =>
    clear hx1 hhas
    go_wp2_with fail
    refine hku.mono ?_
    rintro e w2 ⟨rfl, rfl⟩
    go_wp2_with fail
    go_loopw [5, 18] (fun v i wr => v = .int .i64 1 ∧ i = .int .i64 0 ∧ wr = w1) (fun _ _ _ => 0)
    case atStart => exact ⟨rfl, rfl, rfl⟩
    case round =>
      obtain ⟨rfl, rfl, rfl⟩ := hrel
      go_wp2_with fail
      go_ret
      exact ⟨by simp [freshN, hhu], HX1.out⟩
theorem fresh_any {T : RT} (ok : OkR T) (hc : (entsT T).length ≤ 900000) : ∀ (h : Nat) (u : PT h) (w : World) (F G : Nat → Prop), (∀ b, F b → b < w.heap.size) → IsT w F T → (∀ b, G b → b < w.heap.size) → IsN w G h u → OkT h u → 1 ≤ size h u → (ents h u).length ≤ 900000 → Calls Try.prog 112 #[rootV T, ptr h u] w fun e w' => e = .returned (.int .i64 (freshN (hasR T) h u)) ∧ Ext w w'
  | 0, u, w, F, G, hF, hT, hG, hu, _, _, _ => fresh_zero ok hc hF hT hG hu
  | h + 1, u, w, F, G, hF, hT, hG, hu, oku, _, hcu => fresh_succ (fresh_any ok hc h) ok hc hF hT hG hu oku hcu
theorem fresh_root {T T' : RT} {w : World} {F G : Nat → Prop} (ok : OkR T) (hc : (entsT T).length ≤ 900000) (hF : ∀ b, F b → b < w.heap.size) (hT : IsT w F T) (ok' : OkR T') (hc' : (entsT T').length ≤ 900000) (hG : ∀ b, G b → b < w.heap.size) (hT' : IsT w G T') :
    Calls Try.prog 112 #[rootV T, rootV T'] w fun e w' => e = .returned (.int .i64 (freshR T T')) ∧ Ext w w' := by
  match T', ok', hc', hT' with
  | none, _, _, _ => exact (fresh_nil w _).mono fun e w' ⟨h1, h2⟩ => ⟨h1, h2 ▸ Ext.refl _⟩
  | some ⟨h, u⟩, ok', hc', hT' => exact fresh_any ok hc h u w F G hF hT hG hT' ok'.1 ok'.2.1 hc'
theorem treeFresh_any {T T' : RT} {w : World} {F G : Nat → Prop} {p q : Option Addr} (hp : rootV T = .pointer p) (hq : rootV T' = .pointer q) (ok : OkR T) (hc : (entsT T).length ≤ 900000) (hF : ∀ b, F b → b < w.heap.size) (hT : IsT w F T) (ok' : OkR T') (hc' : (entsT T').length ≤ 900000) (hG : ∀ b, G b → b < w.heap.size) (hT' : IsT w G T') :
    Calls Try.prog 65 #[.agg #[.pointer p], .agg #[.pointer q]] w fun e w' => e = .returned (.int .i64 (freshR T T')) ∧ Ext w w' := by
  have hx := ((Ext.refl w).alloc #[.pointer p] 30).alloc #[.pointer q] 30
  have HC := Lib.hid (fun (W : World) (hW : Ext w W) => fresh_root ok hc (fun b hb => Nat.lt_of_lt_of_le (hF b hb) hW.size) (hT.agree (hW.agree hF)) ok' hc' (fun b hb => Nat.lt_of_lt_of_le (hG b hb) hW.size) (hT'.agree (hW.agree hG)))
  rw [hp, hq] at HC
  have HX := Lib.hid hx
  clear hx hp hq ok hc hF hT ok' hc' hG hT'
  go_enter Try.func65, Try.ntmps65
  go_wp2_with fail
  refine (HC.out _ HX.out).mono ?_
  rintro e w1 ⟨rfl, hx1⟩
  go_wp2_with fail
  go_ret
  exact ⟨rfl, HX.out.trans hx1⟩
theorem heightR_any {w : World} {F : Nat → Prop} {T : RT} (hT : IsT w F T) : Calls Try.prog 67 #[rootV T] w fun e w' => e = .returned (.int .i64 (heightT T)) ∧ w = w' := by
  match T, hT with
  | none, _ => exact height_nil w
  | some ⟨h, t⟩, hT => exact height_any hT
/-! ### The plain law -/
theorem IsN.allA {w : World} {F : Nat → Prop} : ∀ {h : Nat} {t : PT h}, IsN w F h t → AllA F h t
  | 0, _, ⟨h1, _⟩ => h1
  | _ + 1, _, ⟨h1, _, _, _, h4⟩ => ⟨h1, fun k hk => (h4 k hk).allA⟩
theorem AllA.mono {p q : Nat → Prop} (hq : ∀ b, p b → q b) : ∀ {h : Nat} {t : PT h}, AllA p h t → AllA q h t
  | 0, _, h1 => hq _ h1
  | _ + 1, _, ⟨h1, h4⟩ => ⟨hq _ h1, fun k hk => (h4 k hk).mono hq⟩
theorem DelR.addr {B : Nat} {k : ByteArray} : ∀ {h : Nat} {t u : PT h}, DelR B k h t u → B ≤ Proofs.Ytpapoalgocmlaaa.addr h u
  | 0, _, _, h => h.2
  | _ + 1, _, _, h => h.2
theorem PairR.addr {B : Nat} : ∀ {h : Nat} {l r : PT h} {ts : List (PT h)}, PairR B h l r ts → ∀ u ∈ ts, B ≤ Proofs.Ytpapoalgocmlaaa.addr h u
  | 0, _, _, _, h => h.2
  | _ + 1, _, _, _, h => h.2
theorem PairR.ne {B : Nat} : ∀ {h : Nat} {l r : PT h} {ts : List (PT h)}, PairR B h l r ts → ts ≠ [] := fun {h l r ts} hp e => by
  subst e
  have := hp.len
  simp at this
theorem DelT.root {B : Nat} {k : ByteArray} {T : RT} {h : Nat} {u : PT h} (hd : DelT B k T (some ⟨h, u⟩)) (ok : OkR T) : (getE (entsT T) k = Option.none ∧ T = some ⟨h, u⟩) ∨ B ≤ addr h u := by
  cases hd with
  | no h => exact .inl ⟨h, rfl⟩
  | same hg hd hp h2 => exact .inr hd.addr
  | down hg hd =>
    rename_i t
    obtain ⟨kid, kid', hk, hr, ⟨h1, h2⟩ | ⟨h1, l, r, ts, h2, h3, h4, h5⟩⟩ := hd
    · have := congrArg List.length h2
      have ok2 : 2 ≤ t.2.length := ok.1.1
      simp at this; omega
    · have hts := h4.ne
      have hm : ∀ x ∈ ts, x ∈ [u] := fun x hx => by rw [h5]; simp [hx]
      obtain ⟨x, hx⟩ := List.exists_mem_of_ne_nil ts hts
      have := List.mem_singleton.1 (hm x hx)
      exact .inr (this ▸ h4.addr x hx)
theorem shares_plain {B : Nat} {kd : Int} {k : ByteArray} {v : Val} {T T' : RT} (hs : StepR B kd k v T T') (ok : OkR T) (hA : ∀ H t, T = some ⟨H, t⟩ → AllA (· < B) H t) :
    freshR T T' ≤ 2 * max (heightT T) (heightT T') + 3 ∧ (kd ≠ 1 → sameE (entsT T) (entsT T') = true → freshR T T' = 0) ∧ (freshR T T' = 0 → sameE (entsT T) (entsT T') = false → (entsT T').length = 0) := by
  rcases hs with ⟨rfl, hp⟩ | ⟨rfl, hd⟩ | ⟨h1, h2, rfl⟩
  · refine ⟨put_fresh hp ok, fun h => absurd rfl h, fun h0 _ => ?_⟩
    obtain ⟨a, ha, hb⟩ := hp.root
    match T', hp, ha with
    | none, _, ha => simp [rootV] at ha
    | some ⟨h, u⟩, hp, ha =>
      have : Proofs.Ytpapoalgocmlaaa.addr h u = a := by simpa [rootV] using ha
      have := new_fresh (u := u) hA ok (by omega)
      omega
  · refine ⟨del_fresh hd ok, fun _ hse => ?_, fun h0 hse => ?_⟩
    · have hlen : (getE (entsT T) k).isSome = true → False := fun hg => by
        have h1 := sameE_len hse
        have hso : Sorted (entsT T) := by
          match T, ok with
          | none, _ => exact List.Pairwise.nil
          | some ⟨h, t⟩, ok => exact ok.2.2
        rw [hd.ents ok] at h1
        have := delE_len hso hg
        omega
      cases hd with
      | no h => exact fresh_self ok
      | same hg hd hp h2 => exact (hlen hg).elim
      | gone hg hd h0 => exact (hlen hg).elim
      | down hg hd => exact (hlen hg).elim
    · match T', hd with
      | none, _ => rfl
      | some ⟨h, u⟩, hd =>
        rcases hd.root ok with ⟨_, rfl⟩ | hb
        · rw [sameE_refl] at hse; cases hse
        · have := new_fresh (u := u) hA ok hb
          omega
  · rw [fresh_self ok]
    exact ⟨by omega, fun _ _ => rfl, fun _ hse => by rw [sameE_refl] at hse; cases hse⟩
end Go.Proofs.Ytpapoalgocmlaaa
