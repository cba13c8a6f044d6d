/- What the laws of layer 8 have in common: parts of rows, one entry held against another one. -/
import Derived.Test.YtpapoalgocmlaaaMh
import Derived.Test.YtpapoalgocmlaaaMf
namespace Go.Proofs.Ytpapoalgocmlaaa
open Go.RowKit
set_option linter.unusedVariables false
set_option linter.unusedSimpArgs false

/-- A part of a slice of entries. -/
theorem ES.part {w : World} {F : Nat → Prop} {b o c : Nat} {xs : List LE} (h : ES w F ⟨some ⟨b, o, none⟩, c⟩ xs) {i n : Nat} (hn : i + n ≤ xs.length) (h0 : 0 < n) : ES w F ⟨some ⟨b, o + i * 7, none⟩, c - i⟩ ((xs.drop i).take n) := by
  obtain ⟨⟨b', o', h1, h2, h3⟩, hv, hf⟩ := h
  obtain ⟨e1, e2, e3⟩ := h1.eq (by omega)
  have hF := h1.fits (by omega)
  obtain ⟨rfl, rfl⟩ : b = b' ∧ o = o' := by simpa using e1
  have hl : ((xs.drop i).take n).length = n := by rw [List.length_take, List.length_drop]; omega
  dsimp only at e2 e3
  refine ⟨⟨b, o + i * 7, by rw [hl]; exact .some _ _ _ _ (by omega) (by omega) hF, by rw [flatE_len], fun j u hj => ?_⟩, fun x hx => hv x (List.mem_of_mem_drop (List.mem_of_mem_take hx)), by rw [hl]; omega⟩
  have hj' : (flatE xs)[i * 7 + j]? = some u := by
    rw [← flatE_take, ← flatE_drop] at hj
    have hjl := (List.getElem?_eq_some_iff.1 hj).1
    rw [List.getElem?_take] at hj
    split at hj
    · rwa [List.getElem?_drop] at hj
    · cases hj
  rw [Nat.add_assoc]
  exact h3 _ u hj'
/-- A row of one entry. -/
theorem ES.single {w : World} {F : Nat → Prop} {g : Nat} {x : LE} (hb : Blk w g 56 (LE.cells x).toArray) (hF : F g) (hv : RV w F x.v x.sl x.so) (hk : x.k.size ≤ maxLen) : ES w F ⟨some ⟨g, 0, none⟩, 1⟩ [x] :=
  ⟨(Rd.block (cs := flatE [x]) (n := 1) (size := 7) (by simpa [flatE] using hb) (by decide) (by simp [flatE, LE.cells])).mono fun i hi => by rw [hi]; exact hF, fun y hy => by rw [List.mem_singleton.1 hy]; exact ⟨hv, hk⟩, by simp⟩
theorem posE_nth {es : List Ent} (hs : Sorted es) {j : Nat} {e : Ent} (h : es[j]? = some e) : posE es e.1 = j := by
  have hj := (List.getElem?_eq_some_iff.1 h).1
  refine posE_of (Nat.le_of_lt hj) (fun i x hi hx => sorted_lt hs hi hx h) (fun x hx => ?_)
  rw [h] at hx; cases hx
  exact klt_irrefl _
/-- The law's own box of the tree, and its row. -/
structure LawS (w0 : World) (es : List Ent) (T : RT) (s : Sl) (ms : List LE) (p : Option Addr) (Bt : Nat) : Prop where
  made : Made w0 es T s ms
  box : Blk w0 Bt 30 #[.pointer p]
  root : rootV T = .pointer p
theorem i64_bounds {q : Int} (h : (Lit.int .i64 q).wf = true) : -9223372036854775808 ≤ q ∧ q ≤ 9223372036854775807 := by
  have h1 : IntKind.i64.min = -9223372036854775808 := by decide
  have h2 : IntKind.i64.max = 9223372036854775807 := by decide
  simp [Lit.wf, h1, h2] at h; omega
/-- An entry that was told, and the map's own: the same. -/
theorem same_part {W4 : World} {b o sc : Nat} {ms : List LE} {j : Nat} {x : LE} {sl so : Sl} (hm : ES W4 (Lt W4.heap.size) ⟨some ⟨b, o, none⟩, sc⟩ ms) (hx : ms[j]? = some x) (hrv : RV W4 (Lt W4.heap.size) x.v sl so) (hks : x.k.size ≤ maxLen) {W : World} (hW : Agree (Lt W4.heap.size) W4 W) (hz : W4.heap.size ≤ W.heap.size) :
    Calls Try.prog 54 #[.slice (some ⟨W.heap.size, 0, none⟩) 1 1, .slice (some ⟨b, o + j * 7, none⟩) 1 (sc - j)] (W.alloc (.cells #[.string x.k, .int .i64 x.v.kind, .bool x.v.b, .int .i64 x.v.i, .string x.v.t, .slice sl.a x.v.l.length sl.c, .slice so.a x.v.ok.length so.c] 56)) fun e w' => e = .returned (.bool true) ∧ Ext W w' := by
  have hxa : Ext W (W.alloc (.cells #[.string x.k, .int .i64 x.v.kind, .bool x.v.b, .int .i64 x.v.i, .string x.v.t, .slice sl.a x.v.l.length sl.c, .slice so.a x.v.ok.length so.c] 56)) := (Ext.refl W).alloc _ _
  have hag : Agree (Lt W4.heap.size) W4 (W.alloc (.cells #[.string x.k, .int .i64 x.v.kind, .bool x.v.b, .int .i64 x.v.i, .string x.v.t, .slice sl.a x.v.l.length sl.c, .slice so.a x.v.ok.length so.c] 56)) := hW.trans (hxa.agree fun b hb => Nat.lt_of_lt_of_le hb hz)
  have hup : ∀ i, Lt W4.heap.size i → Lt (W.alloc (.cells #[.string x.k, .int .i64 x.v.kind, .bool x.v.b, .int .i64 x.v.i, .string x.v.t, .slice sl.a x.v.l.length sl.c, .slice so.a x.v.ok.length so.c] 56)).heap.size i := fun i hi => Nat.lt_of_lt_of_le hi (Nat.le_trans hz hxa.size)
  have hb := Blk.new W 56 (LE.cells ⟨x.k, x.v, sl, so⟩).toArray
  have h1 := ES.single (F := Lt (W.alloc (.cells (LE.cells ⟨x.k, x.v, sl, so⟩).toArray 56)).heap.size) hb hb.lt ((hrv.agree hag).mono hup) hks
  have hj := (List.getElem?_eq_some_iff.1 hx).1
  have h2 := ES.part ((hm.agree hag).mono hup) (i := j) (n := 1) (by omega) (by decide)
  have hd : (ms.drop j).take 1 = [x] := by
    obtain ⟨e1, e2⟩ := List.getElem?_eq_some_iff.1 hx
    rw [List.drop_eq_getElem_cons e1, e2]; rfl
  rw [hd] at h2
  exact (sameEnt_any h1 h2).mono fun e w' ⟨e1, e2⟩ => ⟨by rw [e1]; show Ending.returned (.bool (sameE [x.ent] [x.ent])) = _; rw [sameE_refl], hxa.trans e2⟩
end Go.Proofs.Ytpapoalgocmlaaa
