/- What holds between two rounds of TreeKeeps: all trees so far, and all maps. -/
import Derived.Test.YtpapoalgocmlaaaTrodI
namespace Go.Proofs.Ytpapoalgocmlaaa
open Go.RowKit
set_option linter.unusedVariables false
set_option linter.unusedSimpArgs false
theorem PlayI.more {H G : Nat → Prop} {M : Nat} {T : RT} {w : World} (h : PlayI H M T w) (hH : ∀ b, H b → G b) (hG : ∀ b, b < w.heap.size → G b → H b) : PlayI G M T w :=
  ⟨h.map.more hH hG, h.tree.mono fun i hi => ⟨hi.1, fun hh => hi.2 (hG i hi.1 hh)⟩, h.ok⟩
abbrev mapP (M : Nat) : Value := .pointer (some ⟨M, 0, none⟩)
structure KeepI (base : Nat) (H : Nat → Prop) (ts ms : Sl) (Ts : List RT) (Ms : List Nat) (W : World) : Prop where
  len : Ms.length ≤ Ts.length
  tro : W.ownsRow base 30 1 (.slice ts.a Ts.length ts.c) Ts.length (Ts.map rootV)
  mro : W.ownsRow base 80 1 (.slice ms.a Ms.length ms.c) Ms.length (Ms.map mapP)
  hH : ∀ b, H b → base ≤ b ∧ b < W.heap.size
  rt : ∀ b, ts.row = some b → H b ∧ b ∉ Ms ∧ ms.row ≠ some b
  rm : ∀ b, ms.row = some b → H b ∧ b ∉ Ms
  play : ∀ (k : Nat) (T : RT) (M : Nat), Ts[k]? = some T → Ms[k]? = some M → PlayI H M T W
section
variable {base : Nat} {H : Nat → Prop} {ts ms : Sl} {Ts : List RT} {Ms : List Nat} {W W' : World}
theorem KeepI.hm (h : KeepI base H ts ms Ts Ms W) {M : Nat} (hM : M ∈ Ms) : H M := by
  obtain ⟨k, hk⟩ := List.getElem?_of_mem hM
  have hl := (List.getElem?_eq_some_iff.1 hk).1
  exact (h.play k (Ts[k]'(by have := h.len; omega)) M (List.getElem?_eq_getElem _) hk).map.hm
theorem KeepI.ext (h : KeepI base H ts ms Ts Ms W) (k : Ext W W') : KeepI base H ts ms Ts Ms W' :=
  ⟨h.len, own_agree h.tro (k.agree fun b (hb : Lt W.heap.size b) => hb) (fun b hb => (h.hH b (h.rt b hb).1).2), own_agree h.mro (k.agree fun b (hb : Lt W.heap.size b) => hb) (fun b hb => (h.hH b (h.rm b hb).1).2),
    fun b hb => ⟨(h.hH b hb).1, Nat.lt_of_lt_of_le (h.hH b hb).2 k.size⟩, h.rt, h.rm, fun i T M hT hM => (h.play i T M hT hM).ext k⟩
theorem row_new {s s' : Sl} {w : World} (hs' : s'.a = s.a ∨ s'.a = some ⟨w.heap.size, 0, none⟩ ∧ Wr w W' none) : s'.row = s.row ∨ ∃ b, s'.row = some b ∧ w.heap.size ≤ b := by
  rcases hs' with h | ⟨h, -⟩
  · exact .inl (by simp [Sl.row, h])
  · exact .inr ⟨w.heap.size, by simp [Sl.row, h], Nat.le_refl _⟩
/-- The trees' list goes on. -/
theorem KeepI.pushT (h : KeepI base H ts ms Ts Ms W) {ts' : Sl} {T : RT} (hown : W'.ownsRow base 30 1 (.slice ts'.a (Ts.length + 1) ts'.c) (Ts.length + 1) (Ts.map rootV ++ [rootV T])) (hwr : Wr W W' ts.row) (hs' : ts'.row = ts.row ∨ ∃ b, ts'.row = some b ∧ W.heap.size ≤ b) :
    KeepI base (fun b => H b ∨ ts'.row = some b) ts' ms (Ts ++ [T]) Ms W' := by
  have hrow : ∀ b, ts'.row = some b → b < W.heap.size → ts.row = some b := fun b hb hl => by
    rcases hs' with e | ⟨c, e, hc⟩
    · rw [← e]; exact hb
    · rw [e] at hb; simp at hb; omega
  have hst : St (fun b => ts.row = some b) W W' := hwr.st fun i hi => hi
  have hml : ∀ M ∈ Ms, M < W.heap.size := fun M hM => (h.hH M (h.hm hM)).2
  have hag : Agree (fun b => b < W.heap.size ∧ ts.row ≠ some b) W W' := hst.agree.mono fun b hb => hb
  refine ⟨by have := h.len; simp; omega, by rw [List.length_append, List.map_append]; exact hown, own_agree h.mro hag fun b hb => ⟨(h.hH b (h.rm b hb).1).2, fun e => (h.rt b e).2.2 hb⟩, fun b hb => ?_, fun b hb => ?_, fun b hb => ⟨.inl (h.rm b hb).1, (h.rm b hb).2⟩, fun k T' M hT hM => ?_⟩
  · rcases hb with hb | hb
    · exact ⟨(h.hH b hb).1, Nat.lt_of_lt_of_le (h.hH b hb).2 hst.size⟩
    · exact own_row hown hb
  · refine ⟨.inr hb, fun hM => ?_, fun e => ?_⟩
    · exact (h.rt b (hrow b hb (hml b hM))).2.1 hM
    · exact (h.rt b (hrow b hb (h.hH b (h.rm b e).1).2)).2.2 e
  · have hkl := (List.getElem?_eq_some_iff.1 hM).1
    rw [List.getElem?_append_left (by have := h.len; omega)] at hT
    exact ((h.play k T' M hT hM).more (G := fun b => H b ∨ ts'.row = some b) (fun b hb => .inl hb) fun b hl hb => hb.elim id fun hb => (h.rt b (hrow b hb hl)).1).st hst (fun b hb => .inl (h.rt b hb).1) (fun e => (h.rt M e).2.1 (List.mem_of_getElem? hM))
theorem KeepI.carryT (h : KeepI base H ts ms Ts Ms W) {ts' : Sl} {T : RT} {M : Nat} (hwr : Wr W W' ts.row) (hs' : ts'.row = ts.row ∨ ∃ b, ts'.row = some b ∧ W.heap.size ≤ b) (hp : PlayI H M T W) (hne : ts.row ≠ some M) : PlayI (fun b => H b ∨ ts'.row = some b) M T W' :=
  (hp.more (G := fun b => H b ∨ ts'.row = some b) (fun b hb => .inl hb) fun b hl hb => hb.elim id fun hb => by
    rcases hs' with e | ⟨c, e, hc⟩
    · exact (h.rt b (by rw [← e]; exact hb)).1
    · rw [e] at hb; simp at hb; omega).st (hwr.st fun i hi => hi) (fun b hb => .inl (h.rt b hb).1) hne
theorem KeepI.grow {G : Nat → Prop} (h : KeepI base H ts ms Ts Ms W) (k : Ext W W') (hHG : ∀ b, H b → G b) (hG : ∀ b, b < W.heap.size → G b → H b) (hGb : ∀ b, G b → base ≤ b ∧ b < W'.heap.size) : KeepI base G ts ms Ts Ms W' :=
  have h' := h.ext k
  ⟨h'.len, h'.tro, h'.mro, hGb, fun b hb => ⟨hHG b (h.rt b hb).1, (h.rt b hb).2⟩, fun b hb => ⟨hHG b (h.rm b hb).1, (h.rm b hb).2⟩, fun i T M hT hM => ((h.play i T M hT hM).more hHG hG).ext k⟩
theorem own_one {w : World} {g : Nat} {t : TypeId} {v : Value} (hb : Blk w g t #[v]) (hg : base ≤ g) : w.ownsRow base t 1 (.slice (some ⟨g, 0, none⟩) 1 1) 1 [v] := ⟨rfl, .inr ⟨g, 1, #[v], rfl, hg, hb, Nat.le_refl _, by decide, rfl, rfl⟩⟩
/-- The i-th of an owned row of one-cell elements. -/
theorem own_at {w : World} {t : TypeId} {s : Sl} {n : Nat} {xs : List Value} (h : w.ownsRow base t 1 (.slice s.a n s.c) n xs) {i : Nat} {v : Value} (hi : xs[i]? = some v) : ∃ g, s.a = some ⟨g, 0, none⟩ ∧ s.row = some g ∧ base ≤ g ∧ g < w.heap.size ∧ n ≤ s.c ∧ s.c ≤ maxLen ∧ w.cell? ⟨g, i, none⟩ = some v := by
  have hil := (List.getElem?_eq_some_iff.1 hi).1
  have hn : xs.length = n * 1 := h.1
  obtain ⟨g, cap, rfl, hg, h1, h2, hf⟩ := own_block h (by omega)
  obtain ⟨b, o, h3, h4, h5⟩ := Rd.of_own h
  obtain ⟨e1, -, -⟩ := h3.eq (by omega)
  obtain ⟨rfl, rfl⟩ : g = b ∧ 0 = o := by simpa using e1
  exact ⟨g, rfl, rfl, hg, hf.lt, h1, h2, by have := h5 i v hi; rwa [Nat.zero_add] at this⟩
/-- The maps' list goes on. -/
theorem KeepI.pushM (h : KeepI base H ts ms Ts Ms W) {ms' : Sl} {T : RT} {M : Nat} (hlt : Ts[Ms.length]? = some T) (hp : PlayI H M T W) (hMt : ts.row ≠ some M) (hMm : ms.row ≠ some M)
    (hown : W'.ownsRow base 80 1 (.slice ms'.a (Ms.length + 1) ms'.c) (Ms.length + 1) (Ms.map mapP ++ [mapP M])) (hwr : Wr W W' ms.row) (hs' : ms'.row = ms.row ∨ ∃ b, ms'.row = some b ∧ W.heap.size ≤ b) :
    KeepI base (fun b => H b ∨ ms'.row = some b) ts ms' Ts (Ms ++ [M]) W' := by
  have hrow : ∀ b, ms'.row = some b → b < W.heap.size → ms.row = some b := fun b hb hl => by
    rcases hs' with e | ⟨c, e, hc⟩
    · rw [← e]; exact hb
    · rw [e] at hb; simp at hb; omega
  have hst : St (fun b => ms.row = some b) W W' := hwr.st fun i hi => hi
  have hMl : M < W.heap.size := (h.hH M hp.map.hm).2
  have hml : ∀ M ∈ Ms, M < W.heap.size := fun M hM => (h.hH M (h.hm hM)).2
  have hag : Agree (fun b => b < W.heap.size ∧ ms.row ≠ some b) W W' := hst.agree.mono fun b hb => hb
  have hup : ∀ {T' : RT} {M' : Nat}, PlayI H M' T' W → ms.row ≠ some M' → PlayI (fun b => H b ∨ ms'.row = some b) M' T' W' := fun hp hne =>
    (hp.more (G := fun b => H b ∨ ms'.row = some b) (fun b hb => .inl hb) fun b hl hb => hb.elim id fun hb => (h.rm b (hrow b hb hl)).1).st hst (fun b hb => .inl (h.rm b hb).1) hne
  refine ⟨by have := (List.getElem?_eq_some_iff.1 hlt).1; simp; omega, own_agree h.tro hag fun b hb => ⟨(h.hH b (h.rt b hb).1).2, (h.rt b hb).2.2⟩, by rw [List.length_append, List.map_append]; exact hown, fun b hb => ?_, fun b hb => ?_, fun b hb => ?_, fun k T' M' hT hM => ?_⟩
  · rcases hb with hb | hb
    · exact ⟨(h.hH b hb).1, Nat.lt_of_lt_of_le (h.hH b hb).2 hst.size⟩
    · exact own_row hown hb
  · refine ⟨.inl (h.rt b hb).1, fun hM => ?_, fun e => ?_⟩
    · rcases List.mem_append.1 hM with hM | hM
      · exact (h.rt b hb).2.1 hM
      · obtain rfl := List.mem_singleton.1 hM; exact hMt hb
    · exact (h.rt b hb).2.2 (hrow b e (h.hH b (h.rt b hb).1).2)
  · refine ⟨.inr hb, fun hM => ?_⟩
    rcases List.mem_append.1 hM with hM | hM
    · exact (h.rm b (hrow b hb (hml b hM))).2 hM
    · obtain rfl := List.mem_singleton.1 hM; exact hMm (hrow b hb hMl)
  · by_cases hk : k < Ms.length
    · rw [List.getElem?_append_left hk] at hM
      exact hup (h.play k T' M' hT hM) fun e => (h.rm M' e).2 (List.mem_of_getElem? hM)
    · have hk' : k = Ms.length := by
        have := (List.getElem?_eq_some_iff.1 hM).1
        simp at this; omega
      subst hk'
      rw [List.getElem?_append_right (Nat.le_refl _), Nat.sub_self] at hM
      simp at hM; subst hM
      rw [hlt] at hT
      obtain rfl : T = T' := by simpa using hT
      exact hup hp hMm
end
end Go.Proofs.Ytpapoalgocmlaaa
