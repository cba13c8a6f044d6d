/- (Tree).Delete: the tree without a key. -/
import Derived.Test.YtpapoalgocmlaaaWithout
import Derived.Test.YtpapoalgocmlaaaDelT
import Derived.Test.YtpapoalgocmlaaaBuild
namespace Go.Proofs.Ytpapoalgocmlaaa
open Go.RowKit
set_option linter.unusedVariables false
set_option linter.unusedSimpArgs false

theorem without_any {k : ByteArray} : ∀ (h : Nat) (w : World) (F : Nat → Prop) (t : PT h), (∀ b, F b → b < w.heap.size) → IsN w F h t → OkT h t → 4 ≤ size h t → Sorted (ents h t) → (ents h t).length ≤ 1000000 → Calls Try.prog 121 #[ptr h t, .string k] w (WoPost F h t k w)
  | 0, w, F, t, hF, hn, ok, h4, hs, hc => by
    refine (without_leaf ⟨_, rfl⟩ (height_any hn) (entries_any (hn.mono hF)) hs (show t.2.length ≤ 8 from ok) k).mono ?_
    rintro e w' ⟨hx, (⟨hg, rfl⟩ | ⟨hg, u, rfl, hu, hb, hn'⟩)⟩
    · exact ⟨hx, .inl ⟨hg, rfl⟩⟩
    · exact ⟨hx, .inr ⟨hg, u, rfl, ⟨hu, hb⟩, hn'.mono fun i hi => .inr hi⟩⟩
  | h + 1, w, F, t, hF, hn, ok, h4, hs, hc => by
    refine (without_succ (without_any (k := k) h) hF hn ok hs hc).mono ?_
    rintro e w' ⟨hx, (⟨hg, rfl⟩ | ⟨hg, ks', hd, h2⟩)⟩
    · exact ⟨hx, .inl ⟨hg, rfl⟩⟩
    · have h4 : 4 ≤ t.2.length := h4
      have := (delK_root hd ok hs hg).2.2
      rcases h2 with ⟨u, rfl, -, -⟩ | ⟨-, c, rfl, hb, rfl, hn'⟩
      · simp only [List.length_cons, List.length_nil] at this; omega
      · exact ⟨hx, .inr ⟨hg, c, rfl, ⟨hd, hb⟩, hn'⟩⟩

/-- What without makes of a root. -/
def WoPostT (F : Nat → Prop) (T : RT) (k : ByteArray) (w : World) (e : Ending) (w' : World) : Prop :=
  Ext w w' ∧ ((getE (entsT T) k = none ∧ e = .returned (.tuple #[rootV T, .bool false])) ∨
    ((getE (entsT T) k).isSome = true ∧ ∃ (h : Nat) (u : PT h), e = .returned (.tuple #[ptr h u, .bool true]) ∧ IsN w' (Up F w w') h u ∧
      ((ents h u = [] ∧ DelT w.heap.size k T none) ∨ (0 < (ents h u).length ∧ DelT w.heap.size k T (some ⟨h, u⟩)))))
theorem withoutT_any {w : World} {F : Nat → Prop} {T : RT} (hF : ∀ b, F b → b < w.heap.size) (hT : IsT w F T) (ok : OkR T) (hc : (entsT T).length ≤ 1000000) (k : ByteArray) :
    Calls Try.prog 121 #[rootV T, .string k] w (WoPostT F T k w) := by
  match T, hT, ok, hc with
  | none, _, _, _ =>
    refine (without_leaf (nv := .pointer none) (es := []) ⟨none, rfl⟩ (height_nil w) ((entries_nil w).mono ?_) List.Pairwise.nil (by simp) k).mono ?_
    · rintro e w' ⟨rfl, rfl⟩
      exact ⟨Sl.none, [], rfl, rfl, OE.nil _ _, Ext.refl _⟩
    · rintro e w' ⟨hx, (⟨hg, rfl⟩ | ⟨hg, u, rfl, hu, hb, hn'⟩)⟩
      · exact ⟨hx, .inl ⟨hg, rfl⟩⟩
      · simp [getE] at hg
  | some ⟨0, t⟩, hn, ok, hc =>
    have hn : IsN w F 0 t := hn
    refine (without_leaf ⟨_, rfl⟩ (height_any hn) (entries_any (hn.mono hF)) ok.2.2 (show t.2.length ≤ 8 from ok.1) k).mono ?_
    rintro e w' ⟨hx, (⟨hg, rfl⟩ | ⟨hg, u, rfl, hu, hb, hn'⟩)⟩
    · exact ⟨hx, .inl ⟨hg, rfl⟩⟩
    · refine ⟨hx, .inr ⟨hg, 0, u, rfl, hn'.mono fun i hi => .inr hi, ?_⟩⟩
      by_cases h0 : ents 0 u = []
      · exact .inl ⟨h0, .gone hg ⟨hu, hb⟩ h0⟩
      · have := List.length_pos_iff.2 h0
        exact .inr ⟨this, .same hg ⟨hu, hb⟩ this (.inl rfl)⟩
  | some ⟨h + 1, t⟩, hn, ok, hc =>
    refine (without_succ (without_any (k := k) h) hF hn ok.1 ok.2.2 hc).mono ?_
    rintro e w' ⟨hx, (⟨hg, rfl⟩ | ⟨hg, ks', hd, h2⟩)⟩
    · exact ⟨hx, .inl ⟨hg, rfl⟩⟩
    · have hko := (delK_root hd ok.1 ok.2.2 hg).1
      rcases h2 with ⟨u, rfl, rfl, hn'⟩ | ⟨hl, c, rfl, hb, rfl, hn'⟩
      · have := hko u (List.mem_singleton.2 rfl)
        exact ⟨hx, .inr ⟨hg, h, u, rfl, hn', .inr ⟨ents_pos h u this.1 (by omega), .down hg hd⟩⟩⟩
      · have hp : 0 < (ents (h + 1) c).length := by
          obtain ⟨x, hxm⟩ := List.exists_mem_of_length_pos (show 0 < c.2.length by omega)
          have h1 := hko x hxm
          have h2 := ents_pos h x h1.1 (by omega)
          show 0 < (c.2.flatMap (ents h)).length
          obtain ⟨e, he⟩ := List.exists_mem_of_length_pos h2
          exact List.length_pos_of_mem (List.mem_flatMap.2 ⟨x, hxm, he⟩)
        exact ⟨hx, .inr ⟨hg, h + 1, c, rfl, hn', .inr ⟨hp, .same hg ⟨hd, hb⟩ hp (.inr hl)⟩⟩⟩

def DelPost (F : Nat → Prop) (T : RT) (k : ByteArray) (w : World) (e : Ending) (w' : World) : Prop :=
  ∃ T', e = .returned (.tuple #[treeV T', .bool (getE (entsT T) k).isSome]) ∧ DelT w.heap.size k T T' ∧ IsT w' (Up F w w') T' ∧ Ext w w'

set_option maxRecDepth 100000 in
set_option maxHeartbeats 1000000 in
theorem delete_any {w : World} {F : Nat → Prop} {T : RT} (hF : ∀ b, F b → b < w.heap.size) (hT : IsT w F T) (ok : OkR T) (hc : (entsT T).length ≤ 1000000) (k : ByteArray) :
    Calls Try.prog 77 #[treeV T, .string k] w (DelPost F T k w) := by
  have hcw : ∀ W, Ext w W → Calls Try.prog 121 #[rootV T, .string k] W (WoPostT F T k W) := fun W hW =>
    withoutT_any (fun b hb => Nat.lt_of_lt_of_le (hF b hb) hW.size) (hT.agree (hW.agree hF)) ok hc k
  have hct : ∀ W, Ext w W → Calls Try.prog 114 #[rootV T] W fun e w' => e = .returned (.int .i64 (entsT T).length) ∧ W = w' := fun W hW => countR_any (hT.agree (hW.agree hF))
  have hnil : entsT T = [] → T = none := fun h0 => by
    match T, ok, h0 with
    | none, _, _ => rfl
    | some ⟨h, t⟩, ok, h0 => have := ents_pos h t ok.1 ok.2.1; have h0 : ents h t = [] := h0; rw [h0] at this; cases this
  have hpn : ∃ p, rootV T = .pointer p := rootV_ptr T
  obtain ⟨rp, hrp⟩ := hpn
  rw [hrp] at hcw hct
  have HW := Lib.hid hcw
  have HCT := Lib.hid hct
  have HF := Lib.hid hF
  have HOK := Lib.hid ok
  have HT := Lib.hid hT
  have HNIL := Lib.hid hnil
  have HRP := Lib.hid hrp
  clear hF hT ok hcw hct hnil
  rw [treeV, hrp]
  clear hrp
  go_enter Try.func77, Try.ntmps77
  go_wp2_with fail
  have hx3 : Ext w ((w.alloc (.cells #[.pointer rp] 30)).alloc (.cells #[.pointer none] 30)) := ((Ext.refl w).alloc _ _).alloc _ _
  have hb3 : Blk ((w.alloc (.cells #[.pointer rp] 30)).alloc (.cells #[.pointer none] 30)) (w.heap.size + 1) 30 #[.pointer none] := by
    have := Blk.new (w.alloc (.cells #[.pointer rp] 30)) 30 #[.pointer none]
    simpa using this
  generalize hW3 : World.alloc _ _ = W3 at *
  have hz3 : W3.heap.size = w.heap.size + 1 + 1 := by rw [← hW3]; simp
  clear hW3
  refine (HW.out _ hx3).mono ?_
  rintro e w4 ⟨hx4, hor⟩
  have hb4 := hb3.ext hx4
  have hX4 := hx3.trans hx4
  have q4 : w4.cell? ⟨w.heap.size + 1, 0, none⟩ = some (.pointer none) := hb4.cell 0
  have f4 := hb4.frozen 0
  have hl4 := hb4.lt
  have HX := Lib.hid hX4
  have hnF : ∀ W', ¬ Up F W3 W' (w.heap.size + 1) := fun W' hf => by
    rcases hf with hf | hf
    · have := HF.out _ hf; omega
    · have := hf.1; omega
  have HNF := Lib.hid hnF
  have hwW : w.heap.size ≤ W3.heap.size := by omega
  clear hb3 hb4 hX4 hx3 hx4 hnF
  have hone : ∃ T1 b, e = .returned (.tuple #[rootV T1, .bool b]) ∧ b = (getE (entsT T) k).isSome ∧ IsT w4 (Up F W3 w4) T1 ∧ ((entsT T1).length = 0 → DelT w.heap.size k T none) ∧ ((entsT T1).length ≠ 0 → DelT w.heap.size k T T1) := by
    rcases hor with ⟨hg, rfl⟩ | ⟨hg, h, u, rfl, hn', hd⟩
    · refine ⟨T, false, by rw [HRP.out], by rw [hg]; rfl, (HT.out.agree (HX.out.agree HF.out)).mono fun i hi => .inl hi, fun h0 => ?_, fun _ => .no hg⟩
      have := HNIL.out (List.eq_nil_of_length_eq_zero h0)
      subst this
      exact .no hg
    · refine ⟨some ⟨h, u⟩, true, rfl, hg.symm, hn', fun h0 => ?_, fun h0 => ?_⟩
      · exact (hd.resolve_right fun hc => by have h0 : (ents h u).length = 0 := h0; omega).2.mono hwW
      · exact (hd.resolve_left fun h => h0 (by show (ents _ u).length = 0; rw [h.1]; rfl)).2.mono hwW
  obtain ⟨T1, b, rfl, hb, hT1, hd0, hd1⟩ := hone
  have hcn := countR_any hT1
  obtain ⟨p1, hp1⟩ := rootV_ptr T1
  have hfin : ∀ W', Agree (Up F W3 w4) w4 W' → w4.heap.size ≤ W'.heap.size → IsT W' (Up F w W') T1 := fun W' ha hs => (hT1.agree ha).mono fun i hi => hi.elim .inl fun hi => .inr ⟨Nat.le_trans hwW hi.1, Nat.lt_of_lt_of_le hi.2 hs⟩
  rw [hp1] at hcn
  have HP1 := Lib.hid hp1
  have HCN := Lib.hid hcn
  have HB := Lib.hid hb
  have HFIN := Lib.hid hfin
  have HD0 := Lib.hid hd0
  have HD1 := Lib.hid hd1
  rw [hp1]
  clear hor hp1 hcn hb hfin hd0 hd1 hT1
  go_wp2_with fail
  refine HCN.out.mono ?_
  rintro e w5 ⟨rfl, rfl⟩
  by_cases h0 : (entsT T1).length = 0
  · have h0' : (((entsT T1).length : Int) == 0) = true := by simp [h0]
    go_wp2_with fail
    have q0 : (w4.setCell ⟨w.heap.size + 1, 0, none⟩ (.pointer none)).cell? ⟨w.heap.size + 1, 0, none⟩ = some (.pointer none) := World.cell?_setCell_same w4 _ _ q4
    refine bodyPost_ret (v := .tuple #[treeV none, .bool b]) (by simp [results, Try.results77, go_sem, q0]; rfl) rfl ?_
    rw [HB.out]
    exact ⟨none, rfl, HD0.out h0, trivial, HX.out.setCell (p := ⟨w.heap.size + 1, 0, none⟩) (by show w.heap.size ≤ w.heap.size + 1; omega) _⟩
  · have h0' : (((entsT T1).length : Int) == 0) = false := beq_eq_false_iff_ne.2 (by omega)
    go_wp2_with fail
    have q0 : (w4.setCell ⟨w.heap.size + 1, 0, none⟩ (.pointer p1)).cell? ⟨w.heap.size + 1, 0, none⟩ = some (.pointer p1) := World.cell?_setCell_same w4 _ _ q4
    refine bodyPost_ret (v := .tuple #[treeV T1, .bool b]) (by rw [treeV, HP1.out]; simp [results, Try.results77, go_sem, q0]) rfl ?_
    rw [HB.out]
    exact ⟨T1, rfl, HD1.out h0, HFIN.out _ (Agree.setCell w4 ⟨w.heap.size + 1, 0, none⟩ _ (HNF.out w4)) (by simp), HX.out.setCell (p := ⟨w.heap.size + 1, 0, none⟩) (by show w.heap.size ≤ w.heap.size + 1; omega) _⟩
end Go.Proofs.Ytpapoalgocmlaaa
