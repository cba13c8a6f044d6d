/- tree.mend. Written by program (mkmend.py) for leaves and for inner nodes. -/
import Derived.Test.YtpapoalgocmlaaaMend
namespace Go.Proofs.Ytpapoalgocmlaaa
open Go.RowKit
set_option linter.unusedVariables false
set_option linter.unusedSimpArgs false

/-- What mend hands back. -/
def MendPost (F : Nat → Prop) (base h : Nat) (s : Sl) (ks : List (PT h)) (i : Nat) (w : World) (e : Ending) (w' : World) : Prop :=
  ∃ (s' : Sl) (ks' : List (PT h)), e = .returned (.slice s'.a ks'.length s'.c) ∧ w'.ownsRow base 28 1 (.slice s'.a ks'.length s'.c) ks'.length (ptrs h ks') ∧ Mend w.heap.size h ks i ks' ∧ (∀ u ∈ ks', IsN w' (Up F w w') h u) ∧ St (fun b => s.row = some b) w w'
/-- What mend asks of its kids. -/
structure MendIn (w : World) (F : Nat → Prop) (base h : Nat) (s : Sl) (ks : List (PT h)) (i : Nat) (l r : PT h) : Prop where
  own : w.ownsRow base 28 1 (.slice s.a ks.length s.c) ks.length (ptrs h ks)
  base : base ≤ w.heap.size
  lt : ∀ b, F b → b < w.heap.size ∧ s.row ≠ some b
  isn : ∀ k ∈ ks, IsN w F h k
  ok : ∀ k ∈ ks, OkT h k ∧ 3 ≤ size h k
  hl : ks[i - 1]? = some l
  hr : ks[i - 1 + 1]? = some r
  sum : size h l + size h r ≤ 11
  sorted : Sorted (ks.flatMap (ents h))
  few : (ks.flatMap (ents h)).length ≤ 1000000
  n8 : ks.length ≤ 8
  hh : h ≤ 1000000
theorem two_sorted {h : Nat} {ks : List (PT h)} {j : Nat} {l r : PT h} (hs : Sorted (ks.flatMap (ents h))) (hl : ks[j]? = some l) (hr : ks[j + 1]? = some r) : Sorted (ents h l ++ ents h r) := by
  rw [two_mid hl hr] at hs
  simp only [List.flatMap_append, List.flatMap_cons] at hs
  have h2 := (sorted_app hs).2.1
  rw [← List.append_assoc] at h2
  exact (sorted_app h2).1
theorem two_few {h : Nat} {ks : List (PT h)} {j : Nat} {l r : PT h} (hl : ks[j]? = some l) (hr : ks[j + 1]? = some r) : (ents h l).length + (ents h r).length ≤ (ks.flatMap (ents h)).length := by
  conv => rhs; rw [two_mid hl hr]
  simp only [List.flatMap_append, List.flatMap_cons, List.length_append]; omega
theorem mend_list {α : Type} {ks : List α} {j : Nat} {l r : α} (hl : ks[j]? = some l) (hr : ks[j + 1]? = some r) (a b : α) : (ks.set j a).set (j + 1) b = ks.take j ++ [a, b] ++ ks.drop (j + 2) := by
  have h1 := (List.getElem?_eq_some_iff.1 hl).1
  have h2 := (List.getElem?_eq_some_iff.1 hr).1
  conv => lhs; rw [two_mid hl hr]
  rw [List.set_append_right _ _ (by rw [List.length_take]; omega), List.length_take, Nat.min_eq_left (by omega), Nat.sub_self, List.set_cons_zero, List.set_append_right _ _ (by rw [List.length_take]; omega), List.length_take, Nat.min_eq_left (by omega), show j + 1 - j = 1 from by omega]
  simp
theorem mend_list1 {α : Type} {ks : List α} {j : Nat} {l r : α} (hl : ks[j]? = some l) (hr : ks[j + 1]? = some r) (a : α) : (ks.set j a).take (j + 1) ++ (ks.set j a).drop (j + 2) = ks.take j ++ [a] ++ ks.drop (j + 2) := by
  have h1 := (List.getElem?_eq_some_iff.1 hl).1
  rw [List.set_eq_take_append_cons_drop, if_pos h1]
  have hl1 : (ks.take j ++ [a]).length = j + 1 := by simp; omega
  have e1 : ks.take j ++ a :: ks.drop (j + 1) = (ks.take j ++ [a]) ++ ks.drop (j + 1) := by simp
  rw [e1, List.take_append_of_le_length (by omega), List.take_of_length_le (by omega), show j + 2 = (ks.take j ++ [a]).length + 1 from by omega, List.drop_length_add_append, List.drop_drop, hl1]
theorem own_base {w : World} {A B e size n : Nat} {v : Value} {xs : List Value} (h : w.ownsRow B e size v n xs) (hAB : A ≤ B) : w.ownsRow A e size v n xs := by
  refine ⟨h.1, ?_⟩
  rcases h.2 with hl | ⟨g, cap, cur, hv, hg, r⟩
  · exact .inl hl
  · exact .inr ⟨g, cap, cur, hv, Nat.le_trans hAB hg, r⟩
theorem OE.base {w : World} {A B : Nat} {s : Sl} {xs : List LE} (h : OE w B s xs) (hAB : A ≤ B) : OE w A s xs := ⟨own_base h.own hAB, h.vals.mono fun i hi => ⟨⟨Nat.le_trans hAB hi.1.1, hi.1.2⟩, hi.2⟩, h.few⟩

set_option maxRecDepth 100000 in
set_option maxHeartbeats 1000000 in
theorem mend_zero0 {w : World} {F : Nat → Prop} {base : Nat} {s : Sl} {ks : List (PT (0))} {l r : PT (0)} (hm : MendIn w F base (0) s ks (0) l r) :
    Calls Try.prog 158 #[.slice s.a ks.length s.c, .int .i64 0] w (MendPost F base (0) s ks (0) w) := by
  have hj : 1 < ks.length := (List.getElem?_eq_some_iff.1 hm.hr).1
  obtain ⟨g, cap, rfl, hbg, hnc, hcm, hfil⟩ := own_block hm.own (by omega)
  have hown := hm.own
  have HM := Lib.hid hm
  have hml : ks[0]? = some l := hm.hl
  have hmr : ks[1]? = some r := hm.hr
  have cc : ∀ q u, (ptrs (0) ks)[q]? = some u → w.cell? ⟨g, q, none⟩ = some u := fun q u hq => by
    have := hown.cells (g := g) rfl q u hq
    rwa [add_at, Nat.zero_add] at this
  have cl : w.cell? ⟨g, 0, none⟩ = some (ptr (0) l) := cc 0 _ (by rw [ptrs, List.getElem?_map, hml]; rfl)
  have cr : w.cell? ⟨g, 1, none⟩ = some (ptr (0) r) := cc (1) _ (by rw [ptrs, List.getElem?_map, hmr]; rfl)
  have hlm := List.mem_of_getElem? hml
  have hrm := List.mem_of_getElem? hmr
  have hgl := hfil.lt
  have hn8 := hm.n8
  have hj1 : (0 : Int) < (ks.length : Int) := by omega
  have hj2 : (1 : Int) < (ks.length : Int) := by omega
  have hz : True := trivial
  have HH0 := Lib.hid (fun W (hW : Agree F w W) => height_any ((hm.isn l hlm).agree hW))
  have HCL := Lib.hid hml
  have HCR := Lib.hid hmr
  have HFZ := Lib.hid hfil.frozen
  clear hown cc hfil hm hml hmr hlm hrm
  go_enter Try.func158, Try.ntmps158
  go_wp2_with fail
  go_quiet (fail)
  go_wp2_with fail
  have hxW : Ext w (w.drewN nq) := (Ext.refl w).drewN nq
  refine (HH0.out _ (Agree.drewN w nq)).mono ?_
  rintro e w0 ⟨rfl, rfl⟩
  generalize w.drewN nq = W at *
  clear cl cr
  have hne1 := entries_any (w := W) ((((HM.out.isn l (List.mem_of_getElem? HCL.out)).agree (hxW.agree fun b hb => (HM.out.lt b hb).1))).mono fun b hb => Nat.lt_of_lt_of_le (HM.out.lt b hb).1 hxW.size)
  have hne2 : ∀ W', Ext W W' → Calls Try.prog 117 #[ptr 0 r] W' (EntriesPost (ents 0 r) W') := fun W' hW' => entries_any ((((HM.out.isn r (List.mem_of_getElem? HCR.out)).agree ((hxW.trans hW').agree fun b hb => (HM.out.lt b hb).1))).mono fun b hb => Nat.lt_of_lt_of_le (HM.out.lt b hb).1 (hxW.trans hW').size)
  have HE2 := Lib.hid hne2
  have HXW := Lib.hid hxW
  clear hne2 hxW
  go_wp2_with fail
  refine hne1.mono ?_
  intro e w1 hp
  obtain ⟨sx, xs, rfl, hxs, hox, hx1⟩ := hp
  have HXS := Lib.hid hxs
  have HOX := Lib.hid hox
  have HX1 := Lib.hid hx1
  have he2 := HE2.out w1 hx1
  clear hne1 hxs hox hx1
  go_wp2_with fail
  refine he2.mono ?_
  intro e w2 hp
  obtain ⟨sy, ys, rfl, hys, hoy, hx2⟩ := hp
  have hrx : ∀ b, sx.row = some b → W.heap.size ≤ b ∧ b < w1.heap.size := fun b hb => own_row HOX.out.own hb
  have hry : ∀ b, sy.row = some b → w1.heap.size ≤ b ∧ b < w2.heap.size := fun b hb => own_row hoy.own hb
  have hs1 := HX1.out.size
  have hs2 := hx2.size
  have hox2 := HOX.out.ext hx2
  have hoy2 : OE w2 W.heap.size sy ys := hoy.base hs1
  have hl8 : xs.length ≤ 8 := by have := (HM.out.ok l (List.mem_of_getElem? HCL.out)).1; have e1 : xs.length = l.2.length := by rw [show l.2 = ents 0 l from rfl, ← HXS.out, List.length_map]
                                 rw [e1]; exact this
  have hr8 : ys.length ≤ 8 := by have := (HM.out.ok r (List.mem_of_getElem? HCR.out)).1; have e1 : ys.length = r.2.length := by rw [show r.2 = ents 0 r from rfl, ← hys, List.length_map]
                                 rw [e1]; exact this
  have hsum : xs.length + ys.length ≤ 11 := by
    have e1 : xs.length = size 0 l := by rw [show size 0 l = (ents 0 l).length from rfl, ← HXS.out, List.length_map]
    have e2 : ys.length = size 0 r := by rw [show size 0 r = (ents 0 r).length from rfl, ← hys, List.length_map]
    rw [e1, e2]; exact HM.out.sum
  have hrise : risingN (xs ++ ys) := risingN_of (by rw [List.map_append, HXS.out, hys]; exact two_sorted HM.out.sorted HCL.out HCR.out)
  have hpr := pairE_any hox2 hoy2 (Nat.le_trans hs1 hs2) (fun b hb hb' => by have := hrx b hb; have := hry b hb'; omega)
    (fun x hx => ⟨((HOX.out.vals x hx).1.agree (hx2.agree fun b hb => hb.1.2)).mono fun b hb => ⟨Nat.lt_of_lt_of_le hb.1.2 hs2, fun h => h.elim (fun h => hb.2 h) (fun h => by have := hry b h; have := hb.1.2; omega)⟩, (HOX.out.vals x hx).2⟩)
    (fun x hx => ⟨(hoy.vals x hx).1.mono fun b hb => ⟨hb.1.2, fun h => h.elim (fun h => by have := hrx b h; have := hb.1.1; omega) (fun h => hb.2 h)⟩, (hoy.vals x hx).2⟩)
    hrise hl8 hr8 hsum (l := l) (r := r) HXS.out hys
  have hX2 := HXW.out.trans (HX1.out.trans hx2)
  have HX2 := Lib.hid hX2
  have HRX := Lib.hid hrx
  have HRY := Lib.hid hry
  have hsW := HXW.out.size
  clear he2 hys hoy hx2 hrx hry hox2 hoy2 hrise hl8 hr8 hsum hX2
  go_wp2_with fail
  refine hpr.mono ?_
  rintro e w3 ⟨⟨ts, rfl, hP, hI⟩, hst⟩
  have HALL : Hid (Ext w w3 ∧ PairR w.heap.size 0 l r ts ∧ ∀ u ∈ ts, IsN w3 (Up F w w3) 0 u) := Lib.hid ⟨HX2.out.step hst (fun b hb => hb.elim (fun h => by have := HRX.out b h; omega) (fun h => by have := HRY.out b h; omega)), hP.mono (HX2.out.size), fun u hu => (hI u hu).mono fun i hi => hi.elim (fun h => h.elim) fun h => .inr ⟨Nat.le_trans HX2.out.size h.1, h.2⟩⟩
  clear hpr hP hI hst
  obtain ⟨hX3, hP, hI⟩ := HALL.out
  have hown3 : w3.ownsRow base 28 1 (.slice (some ⟨g, 0, none⟩) ks.length cap) ks.length (ptrs (0) ks) := own_agree (s := ⟨some ⟨g, 0, none⟩, cap⟩) HM.out.own (hX3.agree (F := Lt w.heap.size) fun _ h => h) fun b hb => (own_row HM.out.own hb).2
  have hfz3 : ∀ o, w3.frozen? ⟨g, o, none⟩ = false := fun o => (hX3.frozen hgl).trans (HFZ.out o)
  have hcc : ∀ q u, (ptrs (0) ks)[q]? = some u → w3.cell? ⟨g, q, none⟩ = some u := fun q u hq => by
    have := hown3.cells (g := g) rfl q u hq
    rwa [add_at, Nat.zero_add] at this
  have dl : w3.cell? ⟨g, 0, none⟩ = some (ptr (0) l) := hcc 0 _ (by rw [ptrs, List.getElem?_map, HCL.out]; rfl)
  have dr : w3.cell? ⟨g, 1, none⟩ = some (ptr (0) r) := hcc (1) _ (by rw [ptrs, List.getElem?_map, HCR.out]; rfl)
  have hlj : 0 < ks.length := by omega
  have HOWN3 := Lib.hid hown3
  have HX3 := Lib.hid hX3
  have HP := Lib.hid hP
  have HI := Lib.hid hI
  have hlen := hP.len
  have hFG : ∀ W' x, F x ∨ (w.heap.size ≤ x ∧ x < W') → x ≠ g := fun W' x hx e => by
    subst e
    rcases hx with h | h
    · exact (HM.out.lt x h).2 rfl
    · omega
  have hF2 : ∀ x, F x → x < w.heap.size := fun x hx => (HM.out.lt x hx).1
  have hIK : ∀ k ∈ ks, IsN w3 (Up F w w3) (0) k := fun k hk => ((HM.out.isn k hk).agree (hX3.agree hF2)).mono fun i hi => .inl hi
  have HIK := Lib.hid hIK
  have HFG := Lib.hid hFG
  clear hown3 hcc hX3 hP hI hIK hFG
  rcases hlen with hlen | hlen
  · obtain ⟨a, rfl⟩ := List.length_eq_one_iff.1 hlen
    rw [show two (0) [a] = Ending.returned (.tuple #[ptr (0) a, .pointer none]) from rfl]
    have hfin : ∀ w5, Wr (w3.setCell ⟨g, 0, none⟩ (ptr (0) a)) w5 (some g) → w5.ownsRow base 28 1 (.slice (some ⟨g, 0, none⟩) (ks.length - 1) cap) (ks.length - 1) (((ptrs (0) ks).set 0 (ptr (0) a)).take ((1) * 1) ++ ((ptrs (0) ks).set 0 (ptr (0) a)).drop ((1 + 1) * 1)) →
        MendPost F base (0) ⟨some ⟨g, 0, none⟩, cap⟩ ks (0) w (.returned (.slice (some ⟨g, 0, none⟩) (ks.length - 1) cap)) w5 := fun w5 hwr hown => by
      have hz : w3.heap.size ≤ w5.heap.size := by have := hwr.grown.size; rwa [World.size_setCell] at this
      have hag : Agree (Up F w w3) w3 w5 := (Agree.setCell w3 ⟨g, 0, none⟩ _ (fun h => HFG.out _ g h rfl)).trans (hwr.agree (fun i hi => by rw [World.size_setCell]; exact hi.elim (fun h => Nat.lt_of_lt_of_le (hF2 i h) HX3.out.size) fun h => h.2) (fun k hk h => by cases hk; exact HFG.out _ g h rfl))
      have hup : ∀ i, Up F w w3 i → Up F w w5 i := fun i hi => hi.imp_right fun h => ⟨h.1, Nat.lt_of_lt_of_le h.2 hz⟩
      have e0 : (ptrs (0) ks).set 0 (ptr (0) a) = ptrs (0) (ks.set 0 a) := by rw [ptrs, ptrs, List.map_set]
      have e1 : ((ptrs (0) ks).set 0 (ptr (0) a)).take ((1) * 1) ++ ((ptrs (0) ks).set 0 (ptr (0) a)).drop ((1 + 1) * 1) = ptrs (0) (ks.take 0 ++ [a] ++ ks.drop (0 + 2)) := by
        rw [e0, Nat.mul_one, Nat.mul_one, ← ptrs_take, ← ptrs_drop, ← ptrs_app, mend_list1 HCL.out HCR.out]
      have e2 : (ks.take 0 ++ [a] ++ ks.drop (0 + 2)).length = ks.length - 1 := by simp only [List.length_append, List.length_take, List.length_drop, List.length_cons, List.length_nil]; omega
      rw [e1] at hown
      refine ⟨⟨some ⟨g, 0, none⟩, cap⟩, ks.take 0 ++ [a] ++ ks.drop (0 + 2), by rw [e2], by rw [e2]; exact hown, ⟨l, r, [a], HCL.out, HCR.out, HP.out, rfl⟩, fun u hu => ?_, (((HX3.out.st (fun b => (⟨some ⟨g, 0, none⟩, cap⟩ : Sl).row = some b)).set (p := ⟨g, 0, none⟩) (.inr rfl) _).trans (hwr.st fun i hi => hi))⟩
      refine IsN.mono hup (IsN.agree hag ?_)
      rcases List.mem_append.1 hu with hu | hu
      · rcases List.mem_append.1 hu with hu | hu
        · exact HIK.out u (List.mem_of_mem_take hu)
        · exact HI.out u hu
      · exact HIK.out u (List.mem_of_mem_drop hu)
    have hd := delN_any (s := ⟨some ⟨g, 0, none⟩, cap⟩) (n := ks.length) (xs := (ptrs (0) ks).set 0 (ptr (0) a)) (i := 1) (own_set HOWN3.out hlj (ptr (0) a)) (by omega) (by omega) (fun u hu => by
      rcases List.mem_or_eq_of_mem_set hu with hu | rfl
      · exact ptrs_one (0) ks u hu
      · rfl)
    have q1 : ((1 : Nat) : Int) = (1 : Int) := by omega
    have q2 : (1 : Int) + 1 = (2 : Int) := by omega
    rw [q1, q2] at hd
    have HD := Lib.hid hd
    have HFIN := Lib.hid hfin
    clear hd hfin q1 q2 hF2
    go_wp2_with fail
    refine HD.out.mono ?_
    rintro e w5 ⟨rfl, hown5, hwr5⟩
    have HO5 := Lib.hid (HFIN.out w5 hwr5 hown5)
    clear hown5 hwr5
    go_wp2_with fail
    go_ret
    exact HO5.out
  · obtain ⟨a, b, rfl⟩ : ∃ a b, ts = [a, b] := by
      match ts, hlen with
      | [a, b], _ => exact ⟨a, b, rfl⟩
    rw [show two (0) [a, b] = Ending.returned (.tuple #[ptr (0) a, ptr (0) b]) from rfl]
    have hfin : MendPost F base (0) ⟨some ⟨g, 0, none⟩, cap⟩ ks (0) w (.returned (.slice (some ⟨g, 0, none⟩) ks.length cap)) ((w3.setCell ⟨g, 0, none⟩ (ptr (0) a)).setCell ⟨g, 1, none⟩ (ptr (0) b)) := by
      have hag : Agree (Up F w w3) w3 ((w3.setCell ⟨g, 0, none⟩ (ptr (0) a)).setCell ⟨g, 1, none⟩ (ptr (0) b)) := (Agree.setCell w3 ⟨g, 0, none⟩ _ (fun h => HFG.out _ g h rfl)).trans (Agree.setCell _ ⟨g, 1, none⟩ _ (fun h => HFG.out _ g h rfl))
      have e0 : ((ptrs (0) ks).set 0 (ptr (0) a)).set (1) (ptr (0) b) = ptrs (0) ((ks.set 0 a).set (1) b) := by rw [ptrs, ptrs, List.map_set, List.map_set]
      have e2 : (ks.take 0 ++ [a, b] ++ ks.drop (0 + 2)).length = ks.length := by simp only [List.length_append, List.length_take, List.length_drop, List.length_cons, List.length_nil]; omega
      have hown := own_set (own_set HOWN3.out hlj (ptr (0) a)) (i := 1) (by omega) (ptr (0) b)
      rw [e0, mend_list HCL.out HCR.out] at hown
      refine ⟨⟨some ⟨g, 0, none⟩, cap⟩, ks.take 0 ++ [a, b] ++ ks.drop (0 + 2), by rw [e2], by rw [e2]; exact hown, ⟨l, r, [a, b], HCL.out, HCR.out, HP.out, rfl⟩, fun u hu => ?_, (((HX3.out.st (fun b => (⟨some ⟨g, 0, none⟩, cap⟩ : Sl).row = some b)).set (p := ⟨g, 0, none⟩) (.inr rfl) _).set (p := ⟨g, 1, none⟩) (.inr rfl) _)⟩
      refine IsN.mono (fun i hi => hi.imp_right fun h => ⟨h.1, by simpa using h.2⟩) (IsN.agree hag ?_)
      rcases List.mem_append.1 hu with hu | hu
      · rcases List.mem_append.1 hu with hu | hu
        · exact HIK.out u (List.mem_of_mem_take hu)
        · exact HI.out u hu
      · exact HIK.out u (List.mem_of_mem_drop hu)
    have HFIN := Lib.hid hfin
    clear hfin hF2
    go_wp2_with fail
    go_ret
    exact HFIN.out

set_option maxRecDepth 100000 in
set_option maxHeartbeats 1000000 in
theorem mend_zero1 {w : World} {F : Nat → Prop} {base j : Nat} {s : Sl} {ks : List (PT (0))} {l r : PT (0)} (hm : MendIn w F base (0) s ks (j + 1) l r) :
    Calls Try.prog 158 #[.slice s.a ks.length s.c, .int .i64 ((j : Int) + 1)] w (MendPost F base (0) s ks (j + 1) w) := by
  have hj : j + 1 < ks.length := (List.getElem?_eq_some_iff.1 hm.hr).1
  obtain ⟨g, cap, rfl, hbg, hnc, hcm, hfil⟩ := own_block hm.own (by omega)
  have hown := hm.own
  have HM := Lib.hid hm
  have hml : ks[j]? = some l := hm.hl
  have hmr : ks[j + 1]? = some r := hm.hr
  have cc : ∀ q u, (ptrs (0) ks)[q]? = some u → w.cell? ⟨g, q, none⟩ = some u := fun q u hq => by
    have := hown.cells (g := g) rfl q u hq
    rwa [add_at, Nat.zero_add] at this
  have cl : w.cell? ⟨g, j, none⟩ = some (ptr (0) l) := cc j _ (by rw [ptrs, List.getElem?_map, hml]; rfl)
  have cr : w.cell? ⟨g, j + 1, none⟩ = some (ptr (0) r) := cc (j + 1) _ (by rw [ptrs, List.getElem?_map, hmr]; rfl)
  have hlm := List.mem_of_getElem? hml
  have hrm := List.mem_of_getElem? hmr
  have hgl := hfil.lt
  have hn8 := hm.n8
  have hj1 : (j : Int) < (ks.length : Int) := by omega
  have hj2 : (j : Int) + 1 < (ks.length : Int) := by omega
  have hj0 : (0 : Int) ≤ (j : Int) := by omega
  have hjb : (0 : Int) ≤ (j : Int) + 1 := by omega
  have hw1 : IntKind.i64.wrap ((j : Int) + 1) = (j : Int) + 1 := by rw [IntKind.wrap_i64]; omega
  have htn : ((j : Int) + 1).toNat = j + 1 := by omega
  have hz : True := trivial
  have HH0 := Lib.hid (fun W (hW : Agree F w W) => height_any ((hm.isn l hlm).agree hW))
  have HCL := Lib.hid hml
  have HCR := Lib.hid hmr
  have HFZ := Lib.hid hfil.frozen
  clear hown cc hfil hm hml hmr hlm hrm
  go_enter Try.func158, Try.ntmps158
  go_wp2_with fail
  go_quiet (fail)
  go_wp2_with fail
  have hxW : Ext w (w.drewN nq) := (Ext.refl w).drewN nq
  refine (HH0.out _ (Agree.drewN w nq)).mono ?_
  rintro e w0 ⟨rfl, rfl⟩
  generalize w.drewN nq = W at *
  clear cl cr
  have hne1 := entries_any (w := W) ((((HM.out.isn l (List.mem_of_getElem? HCL.out)).agree (hxW.agree fun b hb => (HM.out.lt b hb).1))).mono fun b hb => Nat.lt_of_lt_of_le (HM.out.lt b hb).1 hxW.size)
  have hne2 : ∀ W', Ext W W' → Calls Try.prog 117 #[ptr 0 r] W' (EntriesPost (ents 0 r) W') := fun W' hW' => entries_any ((((HM.out.isn r (List.mem_of_getElem? HCR.out)).agree ((hxW.trans hW').agree fun b hb => (HM.out.lt b hb).1))).mono fun b hb => Nat.lt_of_lt_of_le (HM.out.lt b hb).1 (hxW.trans hW').size)
  have HE2 := Lib.hid hne2
  have HXW := Lib.hid hxW
  clear hne2 hxW
  go_wp2_with fail
  refine hne1.mono ?_
  intro e w1 hp
  obtain ⟨sx, xs, rfl, hxs, hox, hx1⟩ := hp
  have HXS := Lib.hid hxs
  have HOX := Lib.hid hox
  have HX1 := Lib.hid hx1
  have he2 := HE2.out w1 hx1
  clear hne1 hxs hox hx1
  go_wp2_with fail
  refine he2.mono ?_
  intro e w2 hp
  obtain ⟨sy, ys, rfl, hys, hoy, hx2⟩ := hp
  have hrx : ∀ b, sx.row = some b → W.heap.size ≤ b ∧ b < w1.heap.size := fun b hb => own_row HOX.out.own hb
  have hry : ∀ b, sy.row = some b → w1.heap.size ≤ b ∧ b < w2.heap.size := fun b hb => own_row hoy.own hb
  have hs1 := HX1.out.size
  have hs2 := hx2.size
  have hox2 := HOX.out.ext hx2
  have hoy2 : OE w2 W.heap.size sy ys := hoy.base hs1
  have hl8 : xs.length ≤ 8 := by have := (HM.out.ok l (List.mem_of_getElem? HCL.out)).1; have e1 : xs.length = l.2.length := by rw [show l.2 = ents 0 l from rfl, ← HXS.out, List.length_map]
                                 rw [e1]; exact this
  have hr8 : ys.length ≤ 8 := by have := (HM.out.ok r (List.mem_of_getElem? HCR.out)).1; have e1 : ys.length = r.2.length := by rw [show r.2 = ents 0 r from rfl, ← hys, List.length_map]
                                 rw [e1]; exact this
  have hsum : xs.length + ys.length ≤ 11 := by
    have e1 : xs.length = size 0 l := by rw [show size 0 l = (ents 0 l).length from rfl, ← HXS.out, List.length_map]
    have e2 : ys.length = size 0 r := by rw [show size 0 r = (ents 0 r).length from rfl, ← hys, List.length_map]
    rw [e1, e2]; exact HM.out.sum
  have hrise : risingN (xs ++ ys) := risingN_of (by rw [List.map_append, HXS.out, hys]; exact two_sorted HM.out.sorted HCL.out HCR.out)
  have hpr := pairE_any hox2 hoy2 (Nat.le_trans hs1 hs2) (fun b hb hb' => by have := hrx b hb; have := hry b hb'; omega)
    (fun x hx => ⟨((HOX.out.vals x hx).1.agree (hx2.agree fun b hb => hb.1.2)).mono fun b hb => ⟨Nat.lt_of_lt_of_le hb.1.2 hs2, fun h => h.elim (fun h => hb.2 h) (fun h => by have := hry b h; have := hb.1.2; omega)⟩, (HOX.out.vals x hx).2⟩)
    (fun x hx => ⟨(hoy.vals x hx).1.mono fun b hb => ⟨hb.1.2, fun h => h.elim (fun h => by have := hrx b h; have := hb.1.1; omega) (fun h => hb.2 h)⟩, (hoy.vals x hx).2⟩)
    hrise hl8 hr8 hsum (l := l) (r := r) HXS.out hys
  have hX2 := HXW.out.trans (HX1.out.trans hx2)
  have HX2 := Lib.hid hX2
  have HRX := Lib.hid hrx
  have HRY := Lib.hid hry
  have hsW := HXW.out.size
  clear he2 hys hoy hx2 hrx hry hox2 hoy2 hrise hl8 hr8 hsum hX2
  go_wp2_with fail
  refine hpr.mono ?_
  rintro e w3 ⟨⟨ts, rfl, hP, hI⟩, hst⟩
  have HALL : Hid (Ext w w3 ∧ PairR w.heap.size 0 l r ts ∧ ∀ u ∈ ts, IsN w3 (Up F w w3) 0 u) := Lib.hid ⟨HX2.out.step hst (fun b hb => hb.elim (fun h => by have := HRX.out b h; omega) (fun h => by have := HRY.out b h; omega)), hP.mono (HX2.out.size), fun u hu => (hI u hu).mono fun i hi => hi.elim (fun h => h.elim) fun h => .inr ⟨Nat.le_trans HX2.out.size h.1, h.2⟩⟩
  clear hpr hP hI hst
  obtain ⟨hX3, hP, hI⟩ := HALL.out
  have hown3 : w3.ownsRow base 28 1 (.slice (some ⟨g, 0, none⟩) ks.length cap) ks.length (ptrs (0) ks) := own_agree (s := ⟨some ⟨g, 0, none⟩, cap⟩) HM.out.own (hX3.agree (F := Lt w.heap.size) fun _ h => h) fun b hb => (own_row HM.out.own hb).2
  have hfz3 : ∀ o, w3.frozen? ⟨g, o, none⟩ = false := fun o => (hX3.frozen hgl).trans (HFZ.out o)
  have hcc : ∀ q u, (ptrs (0) ks)[q]? = some u → w3.cell? ⟨g, q, none⟩ = some u := fun q u hq => by
    have := hown3.cells (g := g) rfl q u hq
    rwa [add_at, Nat.zero_add] at this
  have dl : w3.cell? ⟨g, j, none⟩ = some (ptr (0) l) := hcc j _ (by rw [ptrs, List.getElem?_map, HCL.out]; rfl)
  have dr : w3.cell? ⟨g, j + 1, none⟩ = some (ptr (0) r) := hcc (j + 1) _ (by rw [ptrs, List.getElem?_map, HCR.out]; rfl)
  have hlj : j < ks.length := by omega
  have HOWN3 := Lib.hid hown3
  have HX3 := Lib.hid hX3
  have HP := Lib.hid hP
  have HI := Lib.hid hI
  have hlen := hP.len
  have hFG : ∀ W' x, F x ∨ (w.heap.size ≤ x ∧ x < W') → x ≠ g := fun W' x hx e => by
    subst e
    rcases hx with h | h
    · exact (HM.out.lt x h).2 rfl
    · omega
  have hF2 : ∀ x, F x → x < w.heap.size := fun x hx => (HM.out.lt x hx).1
  have hIK : ∀ k ∈ ks, IsN w3 (Up F w w3) (0) k := fun k hk => ((HM.out.isn k hk).agree (hX3.agree hF2)).mono fun i hi => .inl hi
  have HIK := Lib.hid hIK
  have HFG := Lib.hid hFG
  clear hown3 hcc hX3 hP hI hIK hFG
  rcases hlen with hlen | hlen
  · obtain ⟨a, rfl⟩ := List.length_eq_one_iff.1 hlen
    rw [show two (0) [a] = Ending.returned (.tuple #[ptr (0) a, .pointer none]) from rfl]
    have hfin : ∀ w5, Wr (w3.setCell ⟨g, j, none⟩ (ptr (0) a)) w5 (some g) → w5.ownsRow base 28 1 (.slice (some ⟨g, 0, none⟩) (ks.length - 1) cap) (ks.length - 1) (((ptrs (0) ks).set j (ptr (0) a)).take ((j + 1) * 1) ++ ((ptrs (0) ks).set j (ptr (0) a)).drop ((j + 1 + 1) * 1)) →
        MendPost F base (0) ⟨some ⟨g, 0, none⟩, cap⟩ ks (j + 1) w (.returned (.slice (some ⟨g, 0, none⟩) (ks.length - 1) cap)) w5 := fun w5 hwr hown => by
      have hz : w3.heap.size ≤ w5.heap.size := by have := hwr.grown.size; rwa [World.size_setCell] at this
      have hag : Agree (Up F w w3) w3 w5 := (Agree.setCell w3 ⟨g, j, none⟩ _ (fun h => HFG.out _ g h rfl)).trans (hwr.agree (fun i hi => by rw [World.size_setCell]; exact hi.elim (fun h => Nat.lt_of_lt_of_le (hF2 i h) HX3.out.size) fun h => h.2) (fun k hk h => by cases hk; exact HFG.out _ g h rfl))
      have hup : ∀ i, Up F w w3 i → Up F w w5 i := fun i hi => hi.imp_right fun h => ⟨h.1, Nat.lt_of_lt_of_le h.2 hz⟩
      have e0 : (ptrs (0) ks).set j (ptr (0) a) = ptrs (0) (ks.set j a) := by rw [ptrs, ptrs, List.map_set]
      have e1 : ((ptrs (0) ks).set j (ptr (0) a)).take ((j + 1) * 1) ++ ((ptrs (0) ks).set j (ptr (0) a)).drop ((j + 1 + 1) * 1) = ptrs (0) (ks.take j ++ [a] ++ ks.drop (j + 2)) := by
        rw [e0, Nat.mul_one, Nat.mul_one, ← ptrs_take, ← ptrs_drop, ← ptrs_app, mend_list1 HCL.out HCR.out]
      have e2 : (ks.take j ++ [a] ++ ks.drop (j + 2)).length = ks.length - 1 := by simp only [List.length_append, List.length_take, List.length_drop, List.length_cons, List.length_nil]; omega
      rw [e1] at hown
      refine ⟨⟨some ⟨g, 0, none⟩, cap⟩, ks.take j ++ [a] ++ ks.drop (j + 2), by rw [e2], by rw [e2]; exact hown, ⟨l, r, [a], HCL.out, HCR.out, HP.out, rfl⟩, fun u hu => ?_, (((HX3.out.st (fun b => (⟨some ⟨g, 0, none⟩, cap⟩ : Sl).row = some b)).set (p := ⟨g, j, none⟩) (.inr rfl) _).trans (hwr.st fun i hi => hi))⟩
      refine IsN.mono hup (IsN.agree hag ?_)
      rcases List.mem_append.1 hu with hu | hu
      · rcases List.mem_append.1 hu with hu | hu
        · exact HIK.out u (List.mem_of_mem_take hu)
        · exact HI.out u hu
      · exact HIK.out u (List.mem_of_mem_drop hu)
    have hd := delN_any (s := ⟨some ⟨g, 0, none⟩, cap⟩) (n := ks.length) (xs := (ptrs (0) ks).set j (ptr (0) a)) (i := j + 1) (own_set HOWN3.out hlj (ptr (0) a)) (by omega) (by omega) (fun u hu => by
      rcases List.mem_or_eq_of_mem_set hu with hu | rfl
      · exact ptrs_one (0) ks u hu
      · rfl)
    have q1 : ((j + 1 : Nat) : Int) = ((j : Int) + 1) := by omega
    have q2 : ((j : Int) + 1) + 1 = ((j : Int) + 2) := by omega
    rw [q1, q2] at hd
    have HD := Lib.hid hd
    have HFIN := Lib.hid hfin
    clear hd hfin q1 q2 hF2
    go_wp2_with fail
    refine HD.out.mono ?_
    rintro e w5 ⟨rfl, hown5, hwr5⟩
    have HO5 := Lib.hid (HFIN.out w5 hwr5 hown5)
    clear hown5 hwr5
    go_wp2_with fail
    go_ret
    exact HO5.out
  · obtain ⟨a, b, rfl⟩ : ∃ a b, ts = [a, b] := by
      match ts, hlen with
      | [a, b], _ => exact ⟨a, b, rfl⟩
    rw [show two (0) [a, b] = Ending.returned (.tuple #[ptr (0) a, ptr (0) b]) from rfl]
    have hfin : MendPost F base (0) ⟨some ⟨g, 0, none⟩, cap⟩ ks (j + 1) w (.returned (.slice (some ⟨g, 0, none⟩) ks.length cap)) ((w3.setCell ⟨g, j, none⟩ (ptr (0) a)).setCell ⟨g, j + 1, none⟩ (ptr (0) b)) := by
      have hag : Agree (Up F w w3) w3 ((w3.setCell ⟨g, j, none⟩ (ptr (0) a)).setCell ⟨g, j + 1, none⟩ (ptr (0) b)) := (Agree.setCell w3 ⟨g, j, none⟩ _ (fun h => HFG.out _ g h rfl)).trans (Agree.setCell _ ⟨g, j + 1, none⟩ _ (fun h => HFG.out _ g h rfl))
      have e0 : ((ptrs (0) ks).set j (ptr (0) a)).set (j + 1) (ptr (0) b) = ptrs (0) ((ks.set j a).set (j + 1) b) := by rw [ptrs, ptrs, List.map_set, List.map_set]
      have e2 : (ks.take j ++ [a, b] ++ ks.drop (j + 2)).length = ks.length := by simp only [List.length_append, List.length_take, List.length_drop, List.length_cons, List.length_nil]; omega
      have hown := own_set (own_set HOWN3.out hlj (ptr (0) a)) (i := j + 1) (by omega) (ptr (0) b)
      rw [e0, mend_list HCL.out HCR.out] at hown
      refine ⟨⟨some ⟨g, 0, none⟩, cap⟩, ks.take j ++ [a, b] ++ ks.drop (j + 2), by rw [e2], by rw [e2]; exact hown, ⟨l, r, [a, b], HCL.out, HCR.out, HP.out, rfl⟩, fun u hu => ?_, (((HX3.out.st (fun b => (⟨some ⟨g, 0, none⟩, cap⟩ : Sl).row = some b)).set (p := ⟨g, j, none⟩) (.inr rfl) _).set (p := ⟨g, j + 1, none⟩) (.inr rfl) _)⟩
      refine IsN.mono (fun i hi => hi.imp_right fun h => ⟨h.1, by simpa using h.2⟩) (IsN.agree hag ?_)
      rcases List.mem_append.1 hu with hu | hu
      · rcases List.mem_append.1 hu with hu | hu
        · exact HIK.out u (List.mem_of_mem_take hu)
        · exact HI.out u hu
      · exact HIK.out u (List.mem_of_mem_drop hu)
    have HFIN := Lib.hid hfin
    clear hfin hF2
    go_wp2_with fail
    go_ret
    exact HFIN.out

set_option maxRecDepth 100000 in
set_option maxHeartbeats 1000000 in
theorem mend_succ0 {w : World} {F : Nat → Prop} {base h : Nat} {s : Sl} {ks : List (PT (h + 1))} {l r : PT (h + 1)} (hm : MendIn w F base (h + 1) s ks (0) l r) :
    Calls Try.prog 158 #[.slice s.a ks.length s.c, .int .i64 0] w (MendPost F base (h + 1) s ks (0) w) := by
  have hj : 1 < ks.length := (List.getElem?_eq_some_iff.1 hm.hr).1
  obtain ⟨g, cap, rfl, hbg, hnc, hcm, hfil⟩ := own_block hm.own (by omega)
  have hown := hm.own
  have HM := Lib.hid hm
  have hml : ks[0]? = some l := hm.hl
  have hmr : ks[1]? = some r := hm.hr
  have cc : ∀ q u, (ptrs (h + 1) ks)[q]? = some u → w.cell? ⟨g, q, none⟩ = some u := fun q u hq => by
    have := hown.cells (g := g) rfl q u hq
    rwa [add_at, Nat.zero_add] at this
  have cl : w.cell? ⟨g, 0, none⟩ = some (ptr (h + 1) l) := cc 0 _ (by rw [ptrs, List.getElem?_map, hml]; rfl)
  have cr : w.cell? ⟨g, 1, none⟩ = some (ptr (h + 1) r) := cc (1) _ (by rw [ptrs, List.getElem?_map, hmr]; rfl)
  have hlm := List.mem_of_getElem? hml
  have hrm := List.mem_of_getElem? hmr
  have hgl := hfil.lt
  have hn8 := hm.n8
  have hj1 : (0 : Int) < (ks.length : Int) := by omega
  have hj2 : (1 : Int) < (ks.length : Int) := by omega
  have hz : (((h : Int) + 1) == 0) = false := beq_eq_false_iff_ne.2 (by omega)
  have HH0 := Lib.hid (fun W (hW : Agree F w W) => height_any ((hm.isn l hlm).agree hW))
  have HCL := Lib.hid hml
  have HCR := Lib.hid hmr
  have HFZ := Lib.hid hfil.frozen
  clear hown cc hfil hm hml hmr hlm hrm
  go_enter Try.func158, Try.ntmps158
  go_wp2_with fail
  go_quiet (fail)
  go_wp2_with fail
  have hxW : Ext w (w.drewN nq) := (Ext.refl w).drewN nq
  refine (HH0.out _ (Agree.drewN w nq)).mono ?_
  rintro e w0 ⟨rfl, rfl⟩
  generalize w.drewN nq = W at *
  clear cl cr
  have hkk : ∀ W', Ext W W' → ∀ x, x ∈ ks → Calls Try.prog 137 #[ptr (h + 1) x] W' (ClonePost 28 x.2.length (ptrs h x.2) W') := fun W' hW' x hx => kids_any ((HM.out.isn x hx).agree ((hxW.trans hW').agree fun b hb => (HM.out.lt b hb).1)) (by have := (HM.out.ok x hx).1.2.1; omega)
  have hne1 := hkk W (Ext.refl W) l (List.mem_of_getElem? HCL.out)
  have HKK := Lib.hid hkk
  have HXW := Lib.hid hxW
  clear hkk hxW
  go_wp2_with fail
  refine hne1.mono ?_
  rintro e w1 ⟨sx, rfl, hox, hx1⟩
  have HOX := Lib.hid hox
  have HX1 := Lib.hid hx1
  have he2 := HKK.out w1 hx1 r (List.mem_of_getElem? HCR.out)
  clear hne1 hox hx1
  go_wp2_with fail
  refine he2.mono ?_
  rintro e w2 ⟨sy, rfl, hoy, hx2⟩
  have hrx : ∀ b, sx.row = some b → W.heap.size ≤ b ∧ b < w1.heap.size := fun b hb => own_row HOX.out hb
  have hry : ∀ b, sy.row = some b → w1.heap.size ≤ b ∧ b < w2.heap.size := fun b hb => own_row hoy hb
  have hs1 := HX1.out.size
  have hs2 := hx2.size
  have hsW := HXW.out.size
  have hox2 : w2.ownsRow W.heap.size 28 1 (.slice sx.a l.2.length sx.c) l.2.length (ptrs h l.2) := own_agree HOX.out (hx2.agree (F := Lt w1.heap.size) fun _ h => h) fun b hb => (hrx b hb).2
  have hoy2 : w2.ownsRow W.heap.size 28 1 (.slice sy.a r.2.length sy.c) r.2.length (ptrs h r.2) := own_base hoy hs1
  have okl := HM.out.ok l (List.mem_of_getElem? HCL.out)
  have okr := HM.out.ok r (List.mem_of_getElem? HCR.out)
  have hX2 := HXW.out.trans (HX1.out.trans hx2)
  have hso := two_sorted HM.out.sorted HCL.out HCR.out
  have hfe := two_few (ks := ks) HCL.out HCR.out
  have hkp : ∀ x ∈ l.2 ++ r.2, OkT h x ∧ 4 ≤ size h x ∧ IsN w F h x := fun x hx => by
    rcases List.mem_append.1 hx with hx | hx
    · exact ⟨(okl.1.2.2 x hx).1, (okl.1.2.2 x hx).2, (HM.out.isn l (List.mem_of_getElem? HCL.out)).2.choose_spec.2.2 x hx⟩
    · exact ⟨(okr.1.2.2 x hx).1, (okr.1.2.2 x hx).2, (HM.out.isn r (List.mem_of_getElem? HCR.out)).2.choose_spec.2.2 x hx⟩
  have hpos : ∀ x ∈ l.2 ++ r.2, 0 < (ents h x).length := fun x hx => ents_pos h x (hkp x hx).1 (by have := (hkp x hx).2.1; omega)
  have hso2 : Sorted ((l.2 ++ r.2).flatMap (ents h)) := by rw [List.flatMap_append]; exact hso
  have hkids : Kids w2 F h (l.2 ++ r.2) := ⟨fun b hb => Nat.lt_of_lt_of_le (HM.out.lt b hb).1 hX2.size, fun x hx => (hkp x hx).2.2.agree (hX2.agree fun b hb => (HM.out.lt b hb).1), rising_of hso2 hpos, hpos, fun x hx => by have := size_le8 (hkp x hx).1; omega, by
    unfold cnt
    rw [List.flatMap_append, List.length_append]
    have h1 : (ents (h + 1) l).length + (ents (h + 1) r).length ≤ 1000000 := Nat.le_trans hfe HM.out.few
    have h2 : (l.2.flatMap (ents h)).length = (ents (h + 1) l).length := rfl
    have h3 : (r.2.flatMap (ents h)).length = (ents (h + 1) r).length := rfl
    omega, by have := HM.out.hh; omega⟩
  have hpr := pairN_any (F := F) (l := l) (r := r) hox2 hoy2 (Nat.le_trans hs1 hs2) (fun b hb hb' => by have := hrx b hb; have := hry b hb'; omega)
    (fun b hb hb' => by
      have := (HM.out.lt b hb).1
      rcases hb' with h | h
      · have := hrx b h; omega
      · have := hry b h; omega) hkids okl.2 okr.2 okl.1.2.1 okr.1.2.1 HM.out.sum
  have HX2 := Lib.hid hX2
  have HRX := Lib.hid hrx
  have HRY := Lib.hid hry
  clear he2 hoy hx2 hrx hry hox2 hoy2 hX2 hso hfe hkp hpos hso2 hkids okl okr
  go_wp2_with fail
  refine hpr.mono ?_
  rintro e w3 ⟨⟨ts, rfl, hP, hI⟩, hst⟩
  have HALL : Hid (Ext w w3 ∧ PairR w.heap.size (h + 1) l r ts ∧ ∀ u ∈ ts, IsN w3 (Up F w w3) (h + 1) u) := Lib.hid ⟨HX2.out.step hst (fun b hb => hb.elim (fun h => by have := HRX.out b h; omega) (fun h => by have := HRY.out b h; omega)), hP.mono (HX2.out.size), fun u hu => (hI u hu).mono fun i hi => hi.imp_right fun h => ⟨Nat.le_trans HX2.out.size h.1, h.2⟩⟩
  clear hpr hP hI hst
  obtain ⟨hX3, hP, hI⟩ := HALL.out
  have hown3 : w3.ownsRow base 28 1 (.slice (some ⟨g, 0, none⟩) ks.length cap) ks.length (ptrs (h + 1) ks) := own_agree (s := ⟨some ⟨g, 0, none⟩, cap⟩) HM.out.own (hX3.agree (F := Lt w.heap.size) fun _ h => h) fun b hb => (own_row HM.out.own hb).2
  have hfz3 : ∀ o, w3.frozen? ⟨g, o, none⟩ = false := fun o => (hX3.frozen hgl).trans (HFZ.out o)
  have hcc : ∀ q u, (ptrs (h + 1) ks)[q]? = some u → w3.cell? ⟨g, q, none⟩ = some u := fun q u hq => by
    have := hown3.cells (g := g) rfl q u hq
    rwa [add_at, Nat.zero_add] at this
  have dl : w3.cell? ⟨g, 0, none⟩ = some (ptr (h + 1) l) := hcc 0 _ (by rw [ptrs, List.getElem?_map, HCL.out]; rfl)
  have dr : w3.cell? ⟨g, 1, none⟩ = some (ptr (h + 1) r) := hcc (1) _ (by rw [ptrs, List.getElem?_map, HCR.out]; rfl)
  have hlj : 0 < ks.length := by omega
  have HOWN3 := Lib.hid hown3
  have HX3 := Lib.hid hX3
  have HP := Lib.hid hP
  have HI := Lib.hid hI
  have hlen := hP.len
  have hFG : ∀ W' x, F x ∨ (w.heap.size ≤ x ∧ x < W') → x ≠ g := fun W' x hx e => by
    subst e
    rcases hx with h | h
    · exact (HM.out.lt x h).2 rfl
    · omega
  have hF2 : ∀ x, F x → x < w.heap.size := fun x hx => (HM.out.lt x hx).1
  have hIK : ∀ k ∈ ks, IsN w3 (Up F w w3) (h + 1) k := fun k hk => ((HM.out.isn k hk).agree (hX3.agree hF2)).mono fun i hi => .inl hi
  have HIK := Lib.hid hIK
  have HFG := Lib.hid hFG
  clear hown3 hcc hX3 hP hI hIK hFG
  rcases hlen with hlen | hlen
  · obtain ⟨a, rfl⟩ := List.length_eq_one_iff.1 hlen
    rw [show two (h + 1) [a] = Ending.returned (.tuple #[ptr (h + 1) a, .pointer none]) from rfl]
    have hfin : ∀ w5, Wr (w3.setCell ⟨g, 0, none⟩ (ptr (h + 1) a)) w5 (some g) → w5.ownsRow base 28 1 (.slice (some ⟨g, 0, none⟩) (ks.length - 1) cap) (ks.length - 1) (((ptrs (h + 1) ks).set 0 (ptr (h + 1) a)).take ((1) * 1) ++ ((ptrs (h + 1) ks).set 0 (ptr (h + 1) a)).drop ((1 + 1) * 1)) →
        MendPost F base (h + 1) ⟨some ⟨g, 0, none⟩, cap⟩ ks (0) w (.returned (.slice (some ⟨g, 0, none⟩) (ks.length - 1) cap)) w5 := fun w5 hwr hown => by
      have hz : w3.heap.size ≤ w5.heap.size := by have := hwr.grown.size; rwa [World.size_setCell] at this
      have hag : Agree (Up F w w3) w3 w5 := (Agree.setCell w3 ⟨g, 0, none⟩ _ (fun h => HFG.out _ g h rfl)).trans (hwr.agree (fun i hi => by rw [World.size_setCell]; exact hi.elim (fun h => Nat.lt_of_lt_of_le (hF2 i h) HX3.out.size) fun h => h.2) (fun k hk h => by cases hk; exact HFG.out _ g h rfl))
      have hup : ∀ i, Up F w w3 i → Up F w w5 i := fun i hi => hi.imp_right fun h => ⟨h.1, Nat.lt_of_lt_of_le h.2 hz⟩
      have e0 : (ptrs (h + 1) ks).set 0 (ptr (h + 1) a) = ptrs (h + 1) (ks.set 0 a) := by rw [ptrs, ptrs, List.map_set]
      have e1 : ((ptrs (h + 1) ks).set 0 (ptr (h + 1) a)).take ((1) * 1) ++ ((ptrs (h + 1) ks).set 0 (ptr (h + 1) a)).drop ((1 + 1) * 1) = ptrs (h + 1) (ks.take 0 ++ [a] ++ ks.drop (0 + 2)) := by
        rw [e0, Nat.mul_one, Nat.mul_one, ← ptrs_take, ← ptrs_drop, ← ptrs_app, mend_list1 HCL.out HCR.out]
      have e2 : (ks.take 0 ++ [a] ++ ks.drop (0 + 2)).length = ks.length - 1 := by simp only [List.length_append, List.length_take, List.length_drop, List.length_cons, List.length_nil]; omega
      rw [e1] at hown
      refine ⟨⟨some ⟨g, 0, none⟩, cap⟩, ks.take 0 ++ [a] ++ ks.drop (0 + 2), by rw [e2], by rw [e2]; exact hown, ⟨l, r, [a], HCL.out, HCR.out, HP.out, rfl⟩, fun u hu => ?_, (((HX3.out.st (fun b => (⟨some ⟨g, 0, none⟩, cap⟩ : Sl).row = some b)).set (p := ⟨g, 0, none⟩) (.inr rfl) _).trans (hwr.st fun i hi => hi))⟩
      refine IsN.mono hup (IsN.agree hag ?_)
      rcases List.mem_append.1 hu with hu | hu
      · rcases List.mem_append.1 hu with hu | hu
        · exact HIK.out u (List.mem_of_mem_take hu)
        · exact HI.out u hu
      · exact HIK.out u (List.mem_of_mem_drop hu)
    have hd := delN_any (s := ⟨some ⟨g, 0, none⟩, cap⟩) (n := ks.length) (xs := (ptrs (h + 1) ks).set 0 (ptr (h + 1) a)) (i := 1) (own_set HOWN3.out hlj (ptr (h + 1) a)) (by omega) (by omega) (fun u hu => by
      rcases List.mem_or_eq_of_mem_set hu with hu | rfl
      · exact ptrs_one (h + 1) ks u hu
      · rfl)
    have q1 : ((1 : Nat) : Int) = (1 : Int) := by omega
    have q2 : (1 : Int) + 1 = (2 : Int) := by omega
    rw [q1, q2] at hd
    have HD := Lib.hid hd
    have HFIN := Lib.hid hfin
    clear hd hfin q1 q2 hF2
    go_wp2_with fail
    refine HD.out.mono ?_
    rintro e w5 ⟨rfl, hown5, hwr5⟩
    have HO5 := Lib.hid (HFIN.out w5 hwr5 hown5)
    clear hown5 hwr5
    go_wp2_with fail
    go_ret
    exact HO5.out
  · obtain ⟨a, b, rfl⟩ : ∃ a b, ts = [a, b] := by
      match ts, hlen with
      | [a, b], _ => exact ⟨a, b, rfl⟩
    rw [show two (h + 1) [a, b] = Ending.returned (.tuple #[ptr (h + 1) a, ptr (h + 1) b]) from rfl]
    have hfin : MendPost F base (h + 1) ⟨some ⟨g, 0, none⟩, cap⟩ ks (0) w (.returned (.slice (some ⟨g, 0, none⟩) ks.length cap)) ((w3.setCell ⟨g, 0, none⟩ (ptr (h + 1) a)).setCell ⟨g, 1, none⟩ (ptr (h + 1) b)) := by
      have hag : Agree (Up F w w3) w3 ((w3.setCell ⟨g, 0, none⟩ (ptr (h + 1) a)).setCell ⟨g, 1, none⟩ (ptr (h + 1) b)) := (Agree.setCell w3 ⟨g, 0, none⟩ _ (fun h => HFG.out _ g h rfl)).trans (Agree.setCell _ ⟨g, 1, none⟩ _ (fun h => HFG.out _ g h rfl))
      have e0 : ((ptrs (h + 1) ks).set 0 (ptr (h + 1) a)).set (1) (ptr (h + 1) b) = ptrs (h + 1) ((ks.set 0 a).set (1) b) := by rw [ptrs, ptrs, List.map_set, List.map_set]
      have e2 : (ks.take 0 ++ [a, b] ++ ks.drop (0 + 2)).length = ks.length := by simp only [List.length_append, List.length_take, List.length_drop, List.length_cons, List.length_nil]; omega
      have hown := own_set (own_set HOWN3.out hlj (ptr (h + 1) a)) (i := 1) (by omega) (ptr (h + 1) b)
      rw [e0, mend_list HCL.out HCR.out] at hown
      refine ⟨⟨some ⟨g, 0, none⟩, cap⟩, ks.take 0 ++ [a, b] ++ ks.drop (0 + 2), by rw [e2], by rw [e2]; exact hown, ⟨l, r, [a, b], HCL.out, HCR.out, HP.out, rfl⟩, fun u hu => ?_, (((HX3.out.st (fun b => (⟨some ⟨g, 0, none⟩, cap⟩ : Sl).row = some b)).set (p := ⟨g, 0, none⟩) (.inr rfl) _).set (p := ⟨g, 1, none⟩) (.inr rfl) _)⟩
      refine IsN.mono (fun i hi => hi.imp_right fun h => ⟨h.1, by simpa using h.2⟩) (IsN.agree hag ?_)
      rcases List.mem_append.1 hu with hu | hu
      · rcases List.mem_append.1 hu with hu | hu
        · exact HIK.out u (List.mem_of_mem_take hu)
        · exact HI.out u hu
      · exact HIK.out u (List.mem_of_mem_drop hu)
    have HFIN := Lib.hid hfin
    clear hfin hF2
    go_wp2_with fail
    go_ret
    exact HFIN.out

set_option maxRecDepth 100000 in
set_option maxHeartbeats 1000000 in
theorem mend_succ1 {w : World} {F : Nat → Prop} {base h j : Nat} {s : Sl} {ks : List (PT (h + 1))} {l r : PT (h + 1)} (hm : MendIn w F base (h + 1) s ks (j + 1) l r) :
    Calls Try.prog 158 #[.slice s.a ks.length s.c, .int .i64 ((j : Int) + 1)] w (MendPost F base (h + 1) s ks (j + 1) w) := by
  have hj : j + 1 < ks.length := (List.getElem?_eq_some_iff.1 hm.hr).1
  obtain ⟨g, cap, rfl, hbg, hnc, hcm, hfil⟩ := own_block hm.own (by omega)
  have hown := hm.own
  have HM := Lib.hid hm
  have hml : ks[j]? = some l := hm.hl
  have hmr : ks[j + 1]? = some r := hm.hr
  have cc : ∀ q u, (ptrs (h + 1) ks)[q]? = some u → w.cell? ⟨g, q, none⟩ = some u := fun q u hq => by
    have := hown.cells (g := g) rfl q u hq
    rwa [add_at, Nat.zero_add] at this
  have cl : w.cell? ⟨g, j, none⟩ = some (ptr (h + 1) l) := cc j _ (by rw [ptrs, List.getElem?_map, hml]; rfl)
  have cr : w.cell? ⟨g, j + 1, none⟩ = some (ptr (h + 1) r) := cc (j + 1) _ (by rw [ptrs, List.getElem?_map, hmr]; rfl)
  have hlm := List.mem_of_getElem? hml
  have hrm := List.mem_of_getElem? hmr
  have hgl := hfil.lt
  have hn8 := hm.n8
  have hj1 : (j : Int) < (ks.length : Int) := by omega
  have hj2 : (j : Int) + 1 < (ks.length : Int) := by omega
  have hj0 : (0 : Int) ≤ (j : Int) := by omega
  have hjb : (0 : Int) ≤ (j : Int) + 1 := by omega
  have hw1 : IntKind.i64.wrap ((j : Int) + 1) = (j : Int) + 1 := by rw [IntKind.wrap_i64]; omega
  have htn : ((j : Int) + 1).toNat = j + 1 := by omega
  have hz : (((h : Int) + 1) == 0) = false := beq_eq_false_iff_ne.2 (by omega)
  have HH0 := Lib.hid (fun W (hW : Agree F w W) => height_any ((hm.isn l hlm).agree hW))
  have HCL := Lib.hid hml
  have HCR := Lib.hid hmr
  have HFZ := Lib.hid hfil.frozen
  clear hown cc hfil hm hml hmr hlm hrm
  go_enter Try.func158, Try.ntmps158
  go_wp2_with fail
  go_quiet (fail)
  go_wp2_with fail
  have hxW : Ext w (w.drewN nq) := (Ext.refl w).drewN nq
  refine (HH0.out _ (Agree.drewN w nq)).mono ?_
  rintro e w0 ⟨rfl, rfl⟩
  generalize w.drewN nq = W at *
  clear cl cr
  have hkk : ∀ W', Ext W W' → ∀ x, x ∈ ks → Calls Try.prog 137 #[ptr (h + 1) x] W' (ClonePost 28 x.2.length (ptrs h x.2) W') := fun W' hW' x hx => kids_any ((HM.out.isn x hx).agree ((hxW.trans hW').agree fun b hb => (HM.out.lt b hb).1)) (by have := (HM.out.ok x hx).1.2.1; omega)
  have hne1 := hkk W (Ext.refl W) l (List.mem_of_getElem? HCL.out)
  have HKK := Lib.hid hkk
  have HXW := Lib.hid hxW
  clear hkk hxW
  go_wp2_with fail
  refine hne1.mono ?_
  rintro e w1 ⟨sx, rfl, hox, hx1⟩
  have HOX := Lib.hid hox
  have HX1 := Lib.hid hx1
  have he2 := HKK.out w1 hx1 r (List.mem_of_getElem? HCR.out)
  clear hne1 hox hx1
  go_wp2_with fail
  refine he2.mono ?_
  rintro e w2 ⟨sy, rfl, hoy, hx2⟩
  have hrx : ∀ b, sx.row = some b → W.heap.size ≤ b ∧ b < w1.heap.size := fun b hb => own_row HOX.out hb
  have hry : ∀ b, sy.row = some b → w1.heap.size ≤ b ∧ b < w2.heap.size := fun b hb => own_row hoy hb
  have hs1 := HX1.out.size
  have hs2 := hx2.size
  have hsW := HXW.out.size
  have hox2 : w2.ownsRow W.heap.size 28 1 (.slice sx.a l.2.length sx.c) l.2.length (ptrs h l.2) := own_agree HOX.out (hx2.agree (F := Lt w1.heap.size) fun _ h => h) fun b hb => (hrx b hb).2
  have hoy2 : w2.ownsRow W.heap.size 28 1 (.slice sy.a r.2.length sy.c) r.2.length (ptrs h r.2) := own_base hoy hs1
  have okl := HM.out.ok l (List.mem_of_getElem? HCL.out)
  have okr := HM.out.ok r (List.mem_of_getElem? HCR.out)
  have hX2 := HXW.out.trans (HX1.out.trans hx2)
  have hso := two_sorted HM.out.sorted HCL.out HCR.out
  have hfe := two_few (ks := ks) HCL.out HCR.out
  have hkp : ∀ x ∈ l.2 ++ r.2, OkT h x ∧ 4 ≤ size h x ∧ IsN w F h x := fun x hx => by
    rcases List.mem_append.1 hx with hx | hx
    · exact ⟨(okl.1.2.2 x hx).1, (okl.1.2.2 x hx).2, (HM.out.isn l (List.mem_of_getElem? HCL.out)).2.choose_spec.2.2 x hx⟩
    · exact ⟨(okr.1.2.2 x hx).1, (okr.1.2.2 x hx).2, (HM.out.isn r (List.mem_of_getElem? HCR.out)).2.choose_spec.2.2 x hx⟩
  have hpos : ∀ x ∈ l.2 ++ r.2, 0 < (ents h x).length := fun x hx => ents_pos h x (hkp x hx).1 (by have := (hkp x hx).2.1; omega)
  have hso2 : Sorted ((l.2 ++ r.2).flatMap (ents h)) := by rw [List.flatMap_append]; exact hso
  have hkids : Kids w2 F h (l.2 ++ r.2) := ⟨fun b hb => Nat.lt_of_lt_of_le (HM.out.lt b hb).1 hX2.size, fun x hx => (hkp x hx).2.2.agree (hX2.agree fun b hb => (HM.out.lt b hb).1), rising_of hso2 hpos, hpos, fun x hx => by have := size_le8 (hkp x hx).1; omega, by
    unfold cnt
    rw [List.flatMap_append, List.length_append]
    have h1 : (ents (h + 1) l).length + (ents (h + 1) r).length ≤ 1000000 := Nat.le_trans hfe HM.out.few
    have h2 : (l.2.flatMap (ents h)).length = (ents (h + 1) l).length := rfl
    have h3 : (r.2.flatMap (ents h)).length = (ents (h + 1) r).length := rfl
    omega, by have := HM.out.hh; omega⟩
  have hpr := pairN_any (F := F) (l := l) (r := r) hox2 hoy2 (Nat.le_trans hs1 hs2) (fun b hb hb' => by have := hrx b hb; have := hry b hb'; omega)
    (fun b hb hb' => by
      have := (HM.out.lt b hb).1
      rcases hb' with h | h
      · have := hrx b h; omega
      · have := hry b h; omega) hkids okl.2 okr.2 okl.1.2.1 okr.1.2.1 HM.out.sum
  have HX2 := Lib.hid hX2
  have HRX := Lib.hid hrx
  have HRY := Lib.hid hry
  clear he2 hoy hx2 hrx hry hox2 hoy2 hX2 hso hfe hkp hpos hso2 hkids okl okr
  go_wp2_with fail
  refine hpr.mono ?_
  rintro e w3 ⟨⟨ts, rfl, hP, hI⟩, hst⟩
  have HALL : Hid (Ext w w3 ∧ PairR w.heap.size (h + 1) l r ts ∧ ∀ u ∈ ts, IsN w3 (Up F w w3) (h + 1) u) := Lib.hid ⟨HX2.out.step hst (fun b hb => hb.elim (fun h => by have := HRX.out b h; omega) (fun h => by have := HRY.out b h; omega)), hP.mono (HX2.out.size), fun u hu => (hI u hu).mono fun i hi => hi.imp_right fun h => ⟨Nat.le_trans HX2.out.size h.1, h.2⟩⟩
  clear hpr hP hI hst
  obtain ⟨hX3, hP, hI⟩ := HALL.out
  have hown3 : w3.ownsRow base 28 1 (.slice (some ⟨g, 0, none⟩) ks.length cap) ks.length (ptrs (h + 1) ks) := own_agree (s := ⟨some ⟨g, 0, none⟩, cap⟩) HM.out.own (hX3.agree (F := Lt w.heap.size) fun _ h => h) fun b hb => (own_row HM.out.own hb).2
  have hfz3 : ∀ o, w3.frozen? ⟨g, o, none⟩ = false := fun o => (hX3.frozen hgl).trans (HFZ.out o)
  have hcc : ∀ q u, (ptrs (h + 1) ks)[q]? = some u → w3.cell? ⟨g, q, none⟩ = some u := fun q u hq => by
    have := hown3.cells (g := g) rfl q u hq
    rwa [add_at, Nat.zero_add] at this
  have dl : w3.cell? ⟨g, j, none⟩ = some (ptr (h + 1) l) := hcc j _ (by rw [ptrs, List.getElem?_map, HCL.out]; rfl)
  have dr : w3.cell? ⟨g, j + 1, none⟩ = some (ptr (h + 1) r) := hcc (j + 1) _ (by rw [ptrs, List.getElem?_map, HCR.out]; rfl)
  have hlj : j < ks.length := by omega
  have HOWN3 := Lib.hid hown3
  have HX3 := Lib.hid hX3
  have HP := Lib.hid hP
  have HI := Lib.hid hI
  have hlen := hP.len
  have hFG : ∀ W' x, F x ∨ (w.heap.size ≤ x ∧ x < W') → x ≠ g := fun W' x hx e => by
    subst e
    rcases hx with h | h
    · exact (HM.out.lt x h).2 rfl
    · omega
  have hF2 : ∀ x, F x → x < w.heap.size := fun x hx => (HM.out.lt x hx).1
  have hIK : ∀ k ∈ ks, IsN w3 (Up F w w3) (h + 1) k := fun k hk => ((HM.out.isn k hk).agree (hX3.agree hF2)).mono fun i hi => .inl hi
  have HIK := Lib.hid hIK
  have HFG := Lib.hid hFG
  clear hown3 hcc hX3 hP hI hIK hFG
  rcases hlen with hlen | hlen
  · obtain ⟨a, rfl⟩ := List.length_eq_one_iff.1 hlen
    rw [show two (h + 1) [a] = Ending.returned (.tuple #[ptr (h + 1) a, .pointer none]) from rfl]
    have hfin : ∀ w5, Wr (w3.setCell ⟨g, j, none⟩ (ptr (h + 1) a)) w5 (some g) → w5.ownsRow base 28 1 (.slice (some ⟨g, 0, none⟩) (ks.length - 1) cap) (ks.length - 1) (((ptrs (h + 1) ks).set j (ptr (h + 1) a)).take ((j + 1) * 1) ++ ((ptrs (h + 1) ks).set j (ptr (h + 1) a)).drop ((j + 1 + 1) * 1)) →
        MendPost F base (h + 1) ⟨some ⟨g, 0, none⟩, cap⟩ ks (j + 1) w (.returned (.slice (some ⟨g, 0, none⟩) (ks.length - 1) cap)) w5 := fun w5 hwr hown => by
      have hz : w3.heap.size ≤ w5.heap.size := by have := hwr.grown.size; rwa [World.size_setCell] at this
      have hag : Agree (Up F w w3) w3 w5 := (Agree.setCell w3 ⟨g, j, none⟩ _ (fun h => HFG.out _ g h rfl)).trans (hwr.agree (fun i hi => by rw [World.size_setCell]; exact hi.elim (fun h => Nat.lt_of_lt_of_le (hF2 i h) HX3.out.size) fun h => h.2) (fun k hk h => by cases hk; exact HFG.out _ g h rfl))
      have hup : ∀ i, Up F w w3 i → Up F w w5 i := fun i hi => hi.imp_right fun h => ⟨h.1, Nat.lt_of_lt_of_le h.2 hz⟩
      have e0 : (ptrs (h + 1) ks).set j (ptr (h + 1) a) = ptrs (h + 1) (ks.set j a) := by rw [ptrs, ptrs, List.map_set]
      have e1 : ((ptrs (h + 1) ks).set j (ptr (h + 1) a)).take ((j + 1) * 1) ++ ((ptrs (h + 1) ks).set j (ptr (h + 1) a)).drop ((j + 1 + 1) * 1) = ptrs (h + 1) (ks.take j ++ [a] ++ ks.drop (j + 2)) := by
        rw [e0, Nat.mul_one, Nat.mul_one, ← ptrs_take, ← ptrs_drop, ← ptrs_app, mend_list1 HCL.out HCR.out]
      have e2 : (ks.take j ++ [a] ++ ks.drop (j + 2)).length = ks.length - 1 := by simp only [List.length_append, List.length_take, List.length_drop, List.length_cons, List.length_nil]; omega
      rw [e1] at hown
      refine ⟨⟨some ⟨g, 0, none⟩, cap⟩, ks.take j ++ [a] ++ ks.drop (j + 2), by rw [e2], by rw [e2]; exact hown, ⟨l, r, [a], HCL.out, HCR.out, HP.out, rfl⟩, fun u hu => ?_, (((HX3.out.st (fun b => (⟨some ⟨g, 0, none⟩, cap⟩ : Sl).row = some b)).set (p := ⟨g, j, none⟩) (.inr rfl) _).trans (hwr.st fun i hi => hi))⟩
      refine IsN.mono hup (IsN.agree hag ?_)
      rcases List.mem_append.1 hu with hu | hu
      · rcases List.mem_append.1 hu with hu | hu
        · exact HIK.out u (List.mem_of_mem_take hu)
        · exact HI.out u hu
      · exact HIK.out u (List.mem_of_mem_drop hu)
    have hd := delN_any (s := ⟨some ⟨g, 0, none⟩, cap⟩) (n := ks.length) (xs := (ptrs (h + 1) ks).set j (ptr (h + 1) a)) (i := j + 1) (own_set HOWN3.out hlj (ptr (h + 1) a)) (by omega) (by omega) (fun u hu => by
      rcases List.mem_or_eq_of_mem_set hu with hu | rfl
      · exact ptrs_one (h + 1) ks u hu
      · rfl)
    have q1 : ((j + 1 : Nat) : Int) = ((j : Int) + 1) := by omega
    have q2 : ((j : Int) + 1) + 1 = ((j : Int) + 2) := by omega
    rw [q1, q2] at hd
    have HD := Lib.hid hd
    have HFIN := Lib.hid hfin
    clear hd hfin q1 q2 hF2
    go_wp2_with fail
    refine HD.out.mono ?_
    rintro e w5 ⟨rfl, hown5, hwr5⟩
    have HO5 := Lib.hid (HFIN.out w5 hwr5 hown5)
    clear hown5 hwr5
    go_wp2_with fail
    go_ret
    exact HO5.out
  · obtain ⟨a, b, rfl⟩ : ∃ a b, ts = [a, b] := by
      match ts, hlen with
      | [a, b], _ => exact ⟨a, b, rfl⟩
    rw [show two (h + 1) [a, b] = Ending.returned (.tuple #[ptr (h + 1) a, ptr (h + 1) b]) from rfl]
    have hfin : MendPost F base (h + 1) ⟨some ⟨g, 0, none⟩, cap⟩ ks (j + 1) w (.returned (.slice (some ⟨g, 0, none⟩) ks.length cap)) ((w3.setCell ⟨g, j, none⟩ (ptr (h + 1) a)).setCell ⟨g, j + 1, none⟩ (ptr (h + 1) b)) := by
      have hag : Agree (Up F w w3) w3 ((w3.setCell ⟨g, j, none⟩ (ptr (h + 1) a)).setCell ⟨g, j + 1, none⟩ (ptr (h + 1) b)) := (Agree.setCell w3 ⟨g, j, none⟩ _ (fun h => HFG.out _ g h rfl)).trans (Agree.setCell _ ⟨g, j + 1, none⟩ _ (fun h => HFG.out _ g h rfl))
      have e0 : ((ptrs (h + 1) ks).set j (ptr (h + 1) a)).set (j + 1) (ptr (h + 1) b) = ptrs (h + 1) ((ks.set j a).set (j + 1) b) := by rw [ptrs, ptrs, List.map_set, List.map_set]
      have e2 : (ks.take j ++ [a, b] ++ ks.drop (j + 2)).length = ks.length := by simp only [List.length_append, List.length_take, List.length_drop, List.length_cons, List.length_nil]; omega
      have hown := own_set (own_set HOWN3.out hlj (ptr (h + 1) a)) (i := j + 1) (by omega) (ptr (h + 1) b)
      rw [e0, mend_list HCL.out HCR.out] at hown
      refine ⟨⟨some ⟨g, 0, none⟩, cap⟩, ks.take j ++ [a, b] ++ ks.drop (j + 2), by rw [e2], by rw [e2]; exact hown, ⟨l, r, [a, b], HCL.out, HCR.out, HP.out, rfl⟩, fun u hu => ?_, (((HX3.out.st (fun b => (⟨some ⟨g, 0, none⟩, cap⟩ : Sl).row = some b)).set (p := ⟨g, j, none⟩) (.inr rfl) _).set (p := ⟨g, j + 1, none⟩) (.inr rfl) _)⟩
      refine IsN.mono (fun i hi => hi.imp_right fun h => ⟨h.1, by simpa using h.2⟩) (IsN.agree hag ?_)
      rcases List.mem_append.1 hu with hu | hu
      · rcases List.mem_append.1 hu with hu | hu
        · exact HIK.out u (List.mem_of_mem_take hu)
        · exact HI.out u hu
      · exact HIK.out u (List.mem_of_mem_drop hu)
    have HFIN := Lib.hid hfin
    clear hfin hF2
    go_wp2_with fail
    go_ret
    exact HFIN.out

theorem mend_any {w : World} {F : Nat → Prop} {base h i : Nat} {s : Sl} {ks : List (PT h)} {l r : PT h} (hm : MendIn w F base h s ks i l r) :
    Calls Try.prog 158 #[.slice s.a ks.length s.c, .int .i64 i] w (MendPost F base h s ks i w) := by
  match h, i, ks, l, r, hm with
  | 0, 0, _, _, _, hm => exact mend_zero0 hm
  | 0, j + 1, _, _, _, hm => exact mend_zero1 hm
  | h + 1, 0, _, _, _, hm => exact mend_succ0 hm
  | h + 1, j + 1, _, _, _, hm => exact mend_succ1 hm
end Go.Proofs.Ytpapoalgocmlaaa
