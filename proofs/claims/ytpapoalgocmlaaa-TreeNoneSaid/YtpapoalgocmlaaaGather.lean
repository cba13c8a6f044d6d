/- tree.gather, Tree.Entries, Tree.Len, Tree.Root. -/
import Derived.Test.YtpapoalgocmlaaaGet
import Derived.Test.YtpapoalgocmlaaaSt
namespace Go.Proofs.Ytpapoalgocmlaaa
open Go.RowKit
set_option linter.unusedVariables false
set_option linter.unusedSimpArgs false

/-- What gather hands back: the list goes on by the node's entries. -/
def GatherPost (base : Nat) (s : Sl) (xs : List LE) (es : List Ent) (w : World) (e : Ending) (w' : World) : Prop :=
  ∃ (s' : Sl) (ys : List LE), e = .returned (.slice s'.a (xs.length + ys.length) s'.c) ∧ OE w' base s' (xs ++ ys) ∧ ys.map LE.ent = es ∧ Wr w w' s.row ∧ (s'.row = s.row ∨ ∃ b, s'.row = some b ∧ w.heap.size ≤ b)

/-- A list that the call owns goes on by another one's entries. -/
theorem OE.append {w w' : World} {base : Nat} {s s' : Sl} {xs ys : List LE} {F : Nat → Prop} (ho : OE w base s xs) (hv : Vals w F ys) (hF : ∀ b, F b → base ≤ b ∧ b < w.heap.size ∧ s.row ≠ some b) (hf : (xs.length + ys.length) * 104 ≤ 140737488355328)
    (hown : w'.ownsRow base 56 7 (.slice s'.a (xs.length + ys.length) s'.c) (xs.length + ys.length) (flatE xs ++ flatE ys)) (hwr : Wr w w' s.row) (hs' : s'.row = s.row ∨ ∃ b, s'.row = some b ∧ w.heap.size ≤ b) : OE w' base s' (xs ++ ys) := by
  have hnew : ∀ b, b < w.heap.size → s.row ≠ some b → s'.row ≠ some b := fun b hb hn he => by
    rcases hs' with h | ⟨g, h, hg⟩
    · exact hn (h ▸ he)
    · rw [h] at he; simp at he; omega
  have hag : Agree (fun b => (base ≤ b ∧ b < w.heap.size) ∧ s.row ≠ some b) w w' := hwr.agree (fun i hi => hi.1.2) (fun k hk h => h.2 hk)
  refine ⟨by rw [List.length_append, flatE_app]; exact hown, fun x hx => ?_, by rw [List.length_append]; exact hf⟩
  have hup : ∀ i, ((base ≤ i ∧ i < w.heap.size) ∧ s.row ≠ some i) → (base ≤ i ∧ i < w'.heap.size) ∧ s'.row ≠ some i := fun i hi => ⟨⟨hi.1.1, Nat.lt_of_lt_of_le hi.1.2 hwr.grown.size⟩, hnew i hi.1.2 hi.2⟩
  rcases List.mem_append.1 hx with hx | hx
  · exact ⟨((ho.vals x hx).1.agree hag).mono hup, (ho.vals x hx).2⟩
  · exact ⟨(((hv x hx).1.mono fun i hi => ⟨⟨(hF i hi).1, (hF i hi).2.1⟩, (hF i hi).2.2⟩).agree hag).mono hup, (hv x hx).2⟩
theorem EntriesPost.base {es : List Ent} {w : World} {e : Ending} {w' : World} (h : EntriesPost es w e w') : ∃ (s : Sl) (ys : List LE), e = .returned (.slice s.a ys.length s.c) ∧ ys.map LE.ent = es ∧ OE w' w.heap.size s ys ∧ Ext w w' := h
theorem ext_wr {w w' : World} (h : Ext w w') (r : Option Nat) : Wr w w' r := ⟨⟨h.below.os, h.below.tape, h.below.output, h.size, fun k hk _ => h.heap hk⟩, h.fz⟩

set_option maxRecDepth 100000 in
set_option maxHeartbeats 1000000 in
theorem gather_zero {w : World} {nv : Value} {es : List Ent} {base : Nat} {s : Sl} {xs : List LE} (he : Calls Try.prog 117 #[nv] w (EntriesPost es w)) (hk : ∀ W, Wr w W s.row → Calls Try.prog 137 #[nv] W fun e w' => e = .returned (.slice none 0 0) ∧ W = w')
    (hb : base ≤ w.heap.size) (ho : OE w base s xs) (hl : xs.length + es.length ≤ 1000000) : Calls Try.prog 94 #[.slice s.a xs.length s.c, nv] w (GatherPost base s xs es w) := by
  obtain ⟨i0, hi, hz0, hz1, hz2⟩ := info_parts Try.infoEntry
  have HK := Lib.hid hk
  have HO := Lib.hid ho
  clear hk ho
  go_enter Try.func94, Try.ntmps94
  go_wp2_with fail
  refine he.mono ?_
  intro e w1 hp
  obtain ⟨sy, ys, rfl, hys, hoy, hx1⟩ := hp.base
  have hyl : ys.length = es.length := by rw [← hys, List.length_map]
  have ho1 := HO.out.ext hx1
  have HO1 := Lib.hid ho1
  have HX1 := Lib.hid hx1
  have HOY := Lib.hid hoy
  have HYS := Lib.hid hys
  have h63 : xs.length + ys.length ≤ maxLen := by unfold maxLen; omega
  have hb1 : base ≤ w1.heap.size := Nat.le_trans hb hx1.size
  have hby : (xs.length + ys.length) * 104 ≤ 140737488355328 := by omega
  clear hp hys hoy hx1 ho1 hyl
  go_wp2_with (at_builtin; refine wpList_append_x _ rfl (.tmp 7) (.tmp 9) 53 rfl base 56 i0 _ 7 104 Try.underlying53 hi hz0 hz1 hz2 rfl (by decide) s xs.length (flatE xs) rfl HO1.out.own (In w.heap.size w1.heap.size) sy ys.length (flatE ys) rfl HOY.out.es.rd (flatE_one ys) h63 hby hb1 ?_; intro s' w2 hown hwr hs')
  have hs2 : s'.row = s.row ∨ ∃ b, s'.row = some b ∧ w1.heap.size ≤ b := by
    rcases hs' with h | ⟨h, -⟩
    · exact .inl (by simp [Sl.row, h])
    · exact .inr ⟨w1.heap.size, by simp [Sl.row, h], Nat.le_refl _⟩
  have hrow : ∀ b, s.row = some b → b < w.heap.size := fun b hb => (own_row HO.out.own hb).2
  have ho2 := OE.append HO1.out HOY.out.es.vals (fun b hb => ⟨Nat.le_trans ‹base ≤ w.heap.size› hb.1, hb.2, fun e => by have := hrow b e; omega⟩) hby hown hwr hs2
  have HO2 := Lib.hid ho2
  have HW := Lib.hid ((ext_wr HX1.out s.row).trans hwr (fun i hi => .inl hi))
  have HS2 := Lib.hid hs2
  have hx1s := HX1.out.size
  clear ho2 hown hwr hs' hs2 hrow
  refine (HK.out w2 HW.out).mono ?_
  rintro e w3 ⟨rfl, rfl⟩
  go_wp2_with fail
  go_loopw [0, 14] (fun v i wr => v = .slice s'.a (xs.length + ys.length) s'.c ∧ i = .int .i64 0 ∧ wr = w2) (fun _ _ _ => 0)
  case atStart => exact ⟨rfl, rfl, rfl⟩
  case round =>
    obtain ⟨rfl, rfl, rfl⟩ := hrel
    go_wp2_with fail
    go_ret
    exact ⟨s', ys, rfl, HO2.out, HYS.out, HW.out, HS2.out.imp_right fun ⟨b, h1, h2⟩ => ⟨b, h1, Nat.le_trans hx1s h2⟩⟩

/-- What gather makes of the kids from the j-th one on. -/
structure GathS (base : Nat) (s : Sl) (xs : List LE) (w wr : World) (s' : Sl) (ys : List LE) : Prop where
  own : OE wr base s' (xs ++ ys)
  wr : Wr w wr s.row
  row : s'.row = s.row ∨ ∃ b, s'.row = some b ∧ w.heap.size ≤ b

set_option maxRecDepth 100000 in
set_option maxHeartbeats 1000000 in
theorem gather_succ {h : Nat} (ih : ∀ (t : PT h) (w : World) (F : Nat → Prop) (base : Nat) (s : Sl) (xs : List LE), IsN w F h t → (∀ b, F b → b < w.heap.size ∧ s.row ≠ some b) → base ≤ w.heap.size → OE w base s xs → OkT h t → xs.length + (ents h t).length ≤ 1000000 → Calls Try.prog 94 #[.slice s.a xs.length s.c, ptr h t] w (GatherPost base s xs (ents h t) w))
    {t : PT (h + 1)} {w : World} {F : Nat → Prop} {base : Nat} {s : Sl} {xs : List LE} (hn : IsN w F (h + 1) t) (hF : ∀ b, F b → b < w.heap.size ∧ s.row ≠ some b) (hb : base ≤ w.heap.size) (ho : OE w base s xs) (ok : OkT (h + 1) t) (hl : xs.length + (ents (h + 1) t).length ≤ 1000000) :
    Calls Try.prog 94 #[.slice s.a xs.length s.c, ptr (h + 1) t] w (GatherPost base s xs (ents (h + 1) t) w) := by
  obtain ⟨i0, hi, hz0, hz1, hz2⟩ := info_parts Try.infoEntry
  have hlen8 := ok.2.1
  have hlen2 := ok.1
  have hc := kids_any hn (by omega)
  have hks : ∀ x ∈ t.2, IsN w F h x := hn.2.choose_spec.2.2
  have he := entries_inner hn
  have HIH := Lib.hid ih
  have HO := Lib.hid ho
  have HF := Lib.hid hF
  have HKS := Lib.hid hks
  have HOK := Lib.hid ok
  have HL := Lib.hid hl
  have h63 : xs.length + 0 ≤ maxLen := by unfold maxLen; omega
  have hby : (xs.length + 0) * 104 ≤ 140737488355328 := by omega
  have hn0 := Lib.hid hn
  clear ih ho hF hks ok hl hn hc
  go_enter Try.func94, Try.ntmps94
  go_wp2_with fail
  refine he.mono ?_
  rintro e w1 ⟨rfl, rfl⟩
  go_wp2_with (at_builtin; refine wpList_append_x _ rfl (.tmp 7) (.tmp 9) 53 rfl base 56 i0 _ 7 104 Try.underlying53 hi hz0 hz1 hz2 rfl (by decide) s xs.length (flatE xs) rfl HO.out.own (fun _ => True) Sl.none 0 [] rfl (Rd.nil _ _ _) (by simp) h63 hby hb ?_; intro s' w2 hown hwr hs')
  have hs2 : s'.row = s.row ∨ ∃ b, s'.row = some b ∧ w.heap.size ≤ b := by
    rcases hs' with h | ⟨h, -⟩
    · exact .inl (by simp [Sl.row, h])
    · exact .inr ⟨w.heap.size, by simp [Sl.row, h], Nat.le_refl _⟩
  have ho2 : OE w2 base s' (xs ++ []) := OE.append (F := fun _ => False) HO.out (fun x hx => by simp at hx) (fun b hb => hb.elim) hby (by simpa [flatE_nil] using hown) hwr hs2
  rw [List.append_nil] at ho2
  have hrow2 : ∀ b, s'.row = some b → b < w2.heap.size := fun b hb => (own_row ho2.own hb).2
  have hnW : IsN w2 F (h + 1) t := hn0.out.agree (hwr.agree (fun i hi => (HF.out i hi).1) (fun k hk h => (HF.out k h).2 hk))
  have hkc := kids_any hnW (by omega)
  have HG0 := Lib.hid (show GathS base s xs w w2 s' [] from ⟨by rw [List.append_nil]; exact ho2, hwr, hs2⟩)
  clear hs' hown ho2 hwr hs2 hnW
  refine hkc.mono ?_
  rintro e w3 ⟨sk, rfl, hown, hx3⟩
  obtain ⟨g, cap, rfl, hbg, hnc, hcm, hfil⟩ := own_block hown (by omega)
  have hrd : Rd w3 (fun b => b = g) 1 ⟨some ⟨g, 0, none⟩, cap⟩ t.2.length (ptrs h t.2) := by
    obtain ⟨b, o, h1, h2, h3⟩ := Rd.of_own hown
    cases h1 with
    | some _ _ _ _ hnc hcm hb => exact ⟨g, 0, .some _ _ _ _ hnc hcm rfl, h2, h3⟩
  have hgr : s'.row ≠ some g := fun e => by have := hrow2 g e; omega
  have hgl : g < w3.heap.size := hfil.lt
  have HG3 := Lib.hid (show GathS base s xs w w3 s' [] from ⟨HG0.out.own.ext hx3, HG0.out.wr.trans (ext_wr hx3 none) (fun i hi => by cases hi), HG0.out.row⟩)
  have HRD := Lib.hid hrd
  clear hfil hown hx3 hrd hkc hrow2 HG0
  go_wp2_with fail
  go_loopw [0, 14] (fun v i wr => ∃ (j : Nat) (s'' : Sl) (ys : List LE), j ≤ t.2.length ∧ i = .int .i64 j ∧ v = .slice s''.a (xs.length + ys.length) s''.c ∧ ys.map LE.ent = (t.2.take j).flatMap (ents h) ∧ GathS base s xs w wr s'' ys ∧ Rd wr (fun b => b = g) 1 ⟨some ⟨g, 0, none⟩, cap⟩ t.2.length (ptrs h t.2) ∧ s''.row ≠ some g ∧ g < wr.heap.size)
    (fun _ i _ => t.2.length - (intOf i).toNat)
  case atStart => exact ⟨0, s', [], Nat.zero_le _, rfl, rfl, rfl, HG3.out, HRD.out, hgr, hgl⟩
  case round =>
    obtain ⟨j, s'', ys, hj, rfl, rfl, hys, hG, hrd, hgr', hgl'⟩ := hrel
    have HYS := Lib.hid hys
    have HG := Lib.hid hG
    have HR := Lib.hid hrd
    by_cases hlt : j < t.2.length
    · obtain ⟨kid, hkid⟩ : ∃ kid, t.2[j]? = some kid := ⟨_, List.getElem?_eq_getElem hlt⟩
      obtain ⟨b, o, hba, -, -, -, hbc⟩ := hrd.ptr_at hkid
      obtain ⟨rfl, rfl⟩ : g = b ∧ 0 = o := by simpa using hba
      have kc : wr.cell? ⟨g, j, none⟩ = some (ptr h kid) := by simpa using hbc
      have hjl : (j : Int) < (t.2.length : Int) := by omega
      have hkm := List.mem_of_getElem? hkid
      have hlen : ys.length + (ents h kid).length ≤ (ents (h + 1) t).length := by
        have e1 : ys.length = ((t.2.take j).flatMap (ents h)).length := by rw [← hys, List.length_map]
        show _ ≤ (t.2.flatMap (ents h)).length
        rw [e1]
        conv => rhs; rw [take_mid hkid]
        simp only [List.flatMap_append, List.flatMap_cons, List.length_append]; omega
      have hic := HIH.out kid wr F base s'' (xs ++ ys) ((HKS.out kid hkm).agree (hG.wr.agree (fun i hi => (HF.out i hi).1) (fun k hk h => (HF.out k h).2 hk)))
        (fun b hb => ⟨Nat.lt_of_lt_of_le (HF.out b hb).1 hG.wr.grown.size, fun e => by
          rcases hG.row with h | ⟨b', h, hb'⟩
          · exact (HF.out b hb).2 (h ▸ e)
          · rw [h] at e; simp at e; have := (HF.out b hb).1; omega⟩)
        (Nat.le_trans hb hG.wr.grown.size) hG.own (HOK.out.2.2 kid hkm).1 (by have := HL.out; rw [List.length_append]; omega)
      rw [List.length_append] at hic
      have HK := Lib.hid hkid
      clear hys hG hrd hkid hba hbc hkm hlen
      go_wp2_with fail
      refine hic.mono ?_
      rintro e w4 ⟨s4, zs, rfl, ho4, hz4, hw4, hr4⟩
      have HZ := Lib.hid hz4
      have hg4 : s4.row ≠ some g := fun e => by
        rcases hr4 with h | ⟨b', h, hb'⟩
        · exact hgr' (h ▸ e)
        · rw [h] at e; simp at e; omega
      have hG4 : GathS base s xs w w4 s4 (ys ++ zs) := by
        refine ⟨by rw [← List.append_assoc]; exact ho4, HG.out.wr.trans hw4 (fun i hi => ?_), ?_⟩
        · rcases HG.out.row with h | ⟨b', h, hb'⟩
          · exact .inl (h ▸ hi)
          · rw [h] at hi; simp at hi; exact .inr (by omega)
        · rcases hr4 with h | ⟨b', h, hb'⟩
          · rw [h]; exact HG.out.row
          · exact .inr ⟨b', h, Nat.le_trans HG.out.wr.grown.size hb'⟩
      have hR4 := HR.out.agree (hw4.agree (F := fun b => b = g) (fun i hi => by omega) (fun k hk e => hgr' (e ▸ hk)))
      have hgl4 : g < w4.heap.size := Nat.lt_of_lt_of_le hgl' hw4.grown.size
      have HG4 := Lib.hid hG4
      have HR4 := Lib.hid hR4
      have hw1 : (xs ++ ys).length + zs.length = xs.length + (ys ++ zs).length := by simp [Nat.add_assoc]
      have HW1 := Lib.hid hw1
      clear hz4 ho4 hw4 hr4 hG4 hR4 hw1 hic
      go_wp2_with fail
      go_roundw
      case rel => exact ⟨j + 1, s4, ys ++ zs, hlt, by go_num, by rw [← HW1.out]; simp, by rw [List.map_append, HYS.out, HZ.out, List.take_add_one, HK.out]; simp, HG4.out, HR4.out, hg4, hgl4⟩
      case measure => simp [intOf]; omega
    · obtain rfl : j = t.2.length := by omega
      clear hys hG hrd
      go_wp2_with fail
      go_ret
      exact ⟨s'', ys, rfl, HG.out.own, by rw [HYS.out, List.take_length]; rfl, HG.out.wr, HG.out.row⟩
theorem gather_any : ∀ (h : Nat) (t : PT h) (w : World) (F : Nat → Prop) (base : Nat) (s : Sl) (xs : List LE), IsN w F h t → (∀ b, F b → b < w.heap.size ∧ s.row ≠ some b) → base ≤ w.heap.size → OE w base s xs → OkT h t → xs.length + (ents h t).length ≤ 1000000 → Calls Try.prog 94 #[.slice s.a xs.length s.c, ptr h t] w (GatherPost base s xs (ents h t) w)
  | 0, t, w, F, base, s, xs, hn, hF, hb, ho, _, hl =>
    gather_zero (entries_any (hn.mono fun b hb => (hF b hb).1)) (fun W hW => kids_leaf (hn.agree (hW.agree (fun i hi => (hF i hi).1) (fun k hk h => (hF k h).2 hk)))) hb ho hl
  | h + 1, t, w, F, base, s, xs, hn, hF, hb, ho, ok, hl => gather_succ (gather_any h) hn hF hb ho ok hl
theorem kids_nil (w : World) : Calls Try.prog 137 #[.pointer none] w fun e w' => e = .returned (.slice none 0 0) ∧ w = w' := by
  go_enter Try.func137, Try.ntmps137
  go_wp2_with fail
  go_ret
  exact ⟨rfl, rfl⟩
theorem gatherR_any {T : RT} {w : World} {F : Nat → Prop} {base : Nat} {s : Sl} {xs : List LE} (hT : IsT w F T) (hF : ∀ b, F b → b < w.heap.size ∧ s.row ≠ some b) (hb : base ≤ w.heap.size) (ho : OE w base s xs) (ok : OkR T) (hl : xs.length + (entsT T).length ≤ 1000000) :
    Calls Try.prog 94 #[.slice s.a xs.length s.c, rootV T] w (GatherPost base s xs (entsT T) w) := by
  match T, hT, ok, hl with
  | none, _, _, hl => exact gather_zero ((entries_nil w).mono fun e w' ⟨h1, h2⟩ => ⟨Sl.none, [], h1, rfl, OE.nil _ _, h2 ▸ Ext.refl w⟩) (fun W _ => kids_nil W) hb ho hl
  | some ⟨h, t⟩, hT, ok, hl => exact gather_any h t w F base s xs hT hF hb ho ok.1 hl

theorem countR_any {w : World} {F : Nat → Prop} {T : RT} (hT : IsT w F T) : Calls Try.prog 114 #[rootV T] w fun e w' => e = .returned (.int .i64 (entsT T).length) ∧ w = w' := by
  match T, hT with
  | none, _ => exact count_nil w
  | some ⟨h, t⟩, hT => exact count_any hT
theorem treeLen_any {w : World} {F : Nat → Prop} {T : RT} (hF : ∀ b, F b → b < w.heap.size) (hT : IsT w F T) : Calls Try.prog 78 #[treeV T] w fun e w' => e = .returned (.int .i64 (entsT T).length) ∧ Ext w w' := by
  have hx : Ext w (w.alloc (.cells #[rootV T] 30)) := (Ext.refl w).alloc _ _
  have hc := countR_any (hT.agree (hx.agree hF))
  clear hF hT
  go_enter Try.func78, Try.ntmps78
  go_wp2_with fail
  refine hc.mono ?_
  rintro e w' ⟨rfl, rfl⟩
  go_wp2_with fail
  go_ret
  exact ⟨rfl, hx⟩
theorem treeRoot_any (w : World) (v : Value) : Calls Try.prog 66 #[.agg #[v]] w fun e w' => e = .returned v ∧ Ext w w' := by
  go_enter Try.func66, Try.ntmps66
  go_wp2_with fail
  go_ret
  exact ⟨rfl, (Ext.refl w).alloc _ _⟩
set_option maxRecDepth 100000 in
set_option maxHeartbeats 1000000 in
theorem treeEntries_any {w : World} {F : Nat → Prop} {T : RT} (hF : ∀ b, F b → b < w.heap.size) (hT : IsT w F T) (ok : OkR T) (hl : (entsT T).length ≤ 1000000) : Calls Try.prog 38 #[treeV T] w (EntriesPost (entsT T) w) := by
  obtain ⟨i0, hi, hz0, hz1, hz2⟩ := info_parts Try.infoEntry
  have hln : ∀ W, Ext w W → Calls Try.prog 78 #[treeV T] W fun e w' => e = .returned (.int .i64 (entsT T).length) ∧ Ext W w' := fun W hW =>
    treeLen_any (fun b hb => Nat.lt_of_lt_of_le (hF b hb) hW.size) (hT.agree (hW.agree hF))
  have hga : ∀ (W : World) (s : Sl), Ext w W → OE W w.heap.size s [] → Calls Try.prog 94 #[.slice s.a 0 s.c, rootV T] W (GatherPost w.heap.size s [] (entsT T) W) := fun W s hW ho =>
    gatherR_any (xs := []) (hT.agree (hW.agree hF)) (fun b hb => ⟨Nat.lt_of_lt_of_le (hF b hb) hW.size, fun e => by have := (own_row ho.own e).1; have := hF b hb; omega⟩) hW.size ho ok (by simpa using hl)
  generalize entsT T = es at *
  obtain ⟨MC, hms, hmk⟩ : ∃ MC : Array Value, MC.size = es.length * 7 ∧ ∀ W, (Instr.makeSlice 53 (.int .i64 0) (.int .i64 (es.length : Int))).run Try.prog W = .ok (.slice (some ⟨W.heap.size, 0, none⟩) 0 es.length) (W.alloc (.cells MC 56)) := by
    refine ⟨madeCells (Value.cells (.agg #[.string ByteArray.empty, .int .i64 0, .bool false, .int .i64 0, .string ByteArray.empty, .slice none 0 0, .slice none 0 0])) (es.length * 7), size_madeCells _ _, fun W => ?_⟩
    have h := run_make_rowN (P := Try.prog) 53 56 i0 _ Try.underlying53 hi hz0 .i64 .i64 0 es.length (Nat.zero_le _) (by rw [hz2]; omega) (by omega) W
    rw [hz1] at h
    exact h
  have HMS := Lib.hid hms
  have HLN := Lib.hid hln
  have HGA := Lib.hid hga
  clear hF hT ok hln hga hi hz0 hz1 hz2 hms
  go_enter Try.func38, Try.ntmps38
  go_wp2_with fail
  have hx0 : Ext w (w.alloc (.cells #[rootV T] 30)) := (Ext.refl w).alloc _ _
  have hb0 := Blk.new w 30 #[rootV T]
  generalize hW0 : World.alloc _ _ = W0 at *
  have r0 : W0.cell? ⟨w.heap.size, 0, none⟩ = some (rootV T) := hb0.cell 0
  have l0 := hb0.lt
  clear hW0
  go_region_held3 (fun w' => w'.cell? ⟨w.heap.size, 0, none⟩ = some (rootV T)) (first | (with_reducible exact r1) | (with_reducible exact r3) | go_keep)
    (first
      | (go_at_call 78; refine (HLN.out _ ?_).mono ?_; (exact hx0.drew); rintro e w1 ⟨rfl, hx1⟩; have r1 := (hx1.cell (o := 0) l0).trans r0; have l1 := Nat.lt_of_lt_of_le l0 hx1.size)
      | (go_at_call 94; refine (HGA.out _ ⟨some ⟨w1.heap.size, 0, none⟩, es.length⟩ ?_ ?_).mono ?_; (exact ((hx0.drew).trans hx1).alloc _ _); (exact ⟨World.ownsRow_made w1 MC es.length ((hx0.drew).trans hx1).size (by unfold maxLen; omega) HMS.out, fun x hx => by simp at hx, by simp⟩); rintro e w3 ⟨s3, ys, rfl, ho3, hy3, hw3, hr3⟩; have r3 : w3.cell? ⟨w.heap.size, 0, none⟩ = some (rootV T) := (World.cell?_of_block (w := w1.alloc (.cells MC 56)) (a := ⟨w.heap.size, 0, none⟩) (hw3.grown.block w.heap.size (by rw [World.size_alloc]; omega) (fun e => by simp [Sl.row] at e; omega))).trans ((World.cell?_alloc_lt _ _ _ l1).trans r1))
      )
  go_wp2_with fail
  go_ret
  have hX := ((hx0.drew).trans hx1).alloc MC 56
  exact ⟨s3, ys, rfl, hy3, by simpa using ho3, hX.wr hw3 (fun i hi => by simp [Sl.row] at hi; have := ((hx0.drew).trans hx1).size; omega)⟩
end Go.Proofs.Ytpapoalgocmlaaa
