/- Worlds that have grown, and in which blocks of one kind alone may have turned; what lies elsewhere reads as it did. No program in sight. -/
import Derived.Test.YtpapoalgocmlaaaRows2
namespace Go.Proofs.Ytpapoalgocmlaaa
open Go.RowKit

/-- The world has grown; of what was there blocks of H alone may have turned. -/
structure St (H : Nat → Prop) (w w' : World) : Prop where
  os : w'.os = w.os
  tape : w'.tape = w.tape
  output : w'.output = w.output
  size : w.heap.size ≤ w'.heap.size
  block : ∀ b, b < w.heap.size → ¬ H b → w'.heap[b]? = w.heap[b]?
  fz : ∀ b o, w'.frozen? ⟨b, o, none⟩ = w.frozen? ⟨b, o, none⟩
theorem Ext.fz {w w' : World} (h : Ext w w') (b o : Nat) : w'.frozen? ⟨b, o, none⟩ = w.frozen? ⟨b, o, none⟩ := by
  by_cases hl : b < w.heap.size
  · exact h.frozen hl
  · rw [h.free _ _ (by omega), frozen_none (by omega)]
theorem Ext.st {w w' : World} (h : Ext w w') (H : Nat → Prop) : St H w w' := ⟨h.below.os, h.below.tape, h.below.output, h.size, fun _ hb _ => h.heap hb, h.fz⟩
theorem St.refl (H : Nat → Prop) (w : World) : St H w w := (Ext.refl w).st H
theorem Wr.st {w w' : World} {row : Option Nat} (h : Wr w w' row) {H : Nat → Prop} (hr : ∀ i, row = some i → H i) : St H w w' :=
  ⟨h.grown.os, h.grown.tape, h.grown.output, h.grown.size, fun b hb hn => h.grown.block b hb fun e => hn (hr b e.symm), h.fz⟩
theorem St.trans {H : Nat → Prop} {a b c : World} (h : St H a b) (k : St H b c) : St H a c :=
  ⟨k.os.trans h.os, k.tape.trans h.tape, k.output.trans h.output, Nat.le_trans h.size k.size, fun i hi hn => (k.block i (Nat.lt_of_lt_of_le hi h.size) hn).trans (h.block i hi hn), fun b o => (k.fz b o).trans (h.fz b o)⟩
theorem St.mono {H G : Nat → Prop} {a b : World} (h : St H a b) (hG : ∀ i, i < a.heap.size → H i → G i) : St G a b :=
  ⟨h.os, h.tape, h.output, h.size, fun i hi hn => h.block i hi fun hh => hn (hG i hi hh), h.fz⟩
theorem St.ext_of {H : Nat → Prop} {w w' : World} (h : St H w w') (hH : ∀ b, b < w.heap.size → ¬ H b) : Ext w w' :=
  ⟨⟨h.os, h.tape, h.output, h.size, fun b hb => h.block b hb (hH b hb)⟩, fun b o hb => (h.fz b o).trans (frozen_none hb)⟩
theorem Ext.step {a w w' : World} {H : Nat → Prop} (h : Ext a w) (k : St H w w') (hH : ∀ b, H b → a.heap.size ≤ b) : Ext a w' :=
  (St.trans (h.st H) k).ext_of fun b hb hh => by have := hH b hh; omega
theorem St.ext {H : Nat → Prop} {a b c : World} (h : St H a b) (k : Ext b c) : St H a c := h.trans (k.st H)
theorem St.set {H : Nat → Prop} {a w : World} (h : St H a w) {p : Addr} (hp : a.heap.size ≤ p.block ∨ H p.block) (u : Value) : St H a (w.setCell p u) :=
  ⟨h.os, h.tape, h.output, by simpa [World.setCell] using h.size, fun i hi hn => (Below.heap_setCell w p u i (by
    rintro rfl
    rcases hp with hp | hp
    · omega
    · exact hn hp)).trans (h.block i hi hn), fun b o => by rw [World.frozen?_setCell]; exact h.fz b o⟩
theorem St.heap {H : Nat → Prop} {w w' : World} (h : St H w w') {b : Nat} (hb : b < w.heap.size) (hn : ¬ H b) : w'.heap[b]? = w.heap[b]? := h.block b hb hn
theorem St.cell {H : Nat → Prop} {w w' : World} (h : St H w w') {b o : Nat} (hb : b < w.heap.size) (hn : ¬ H b) : w'.cell? ⟨b, o, none⟩ = w.cell? ⟨b, o, none⟩ :=
  World.cell?_of_block (w := w) (a := ⟨b, o, none⟩) (h.block b hb hn)
theorem St.drewN {H : Nat → Prop} {a w : World} (h : St H a w) (n : Nat) : St H a (w.drewN n) := h.ext ((Ext.refl w).drewN n)
theorem St.drew {H : Nat → Prop} {a w : World} (h : St H a w) : St H a w.drew := h.ext ((Ext.refl w).drew)
theorem St.alloc {H : Nat → Prop} {a w : World} (h : St H a w) (c : Array Value) (t : TypeId) : St H a (w.alloc (.cells c t)) := h.ext ((Ext.refl w).alloc c t)
theorem St.blk {H : Nat → Prop} {w w' : World} {g : Nat} {t : TypeId} {cs : Array Value} (h : St H w w') (hb : Blk w g t cs) (hn : ¬ H g) : Blk w' g t cs := (h.block g hb.lt hn).trans hb

/-- Blocks that are there, but for those of H. -/
abbrev NH (H : Nat → Prop) (w : World) : Nat → Prop := fun b => b < w.heap.size ∧ ¬ H b
theorem St.agree {H : Nat → Prop} {w w' : World} (h : St H w w') : Agree (NH H w) w w' := fun b hb => h.block b hb.1 hb.2
theorem St.up {H : Nat → Prop} {w w' : World} (h : St H w w') {b : Nat} (hb : NH H w b) : NH H w' b := ⟨Nat.lt_of_lt_of_le hb.1 h.size, hb.2⟩
theorem Ext.up {H : Nat → Prop} {w w' : World} (h : Ext w w') {b : Nat} (hb : NH H w b) : NH H w' b := ⟨Nat.lt_of_lt_of_le hb.1 h.size, hb.2⟩
theorem Ext.agreeH {H : Nat → Prop} {w w' : World} (h : Ext w w') : Agree (NH H w) w w' := h.agree fun _ hb => hb.1
theorem NH.lt {H : Nat → Prop} {w : World} {b : Nat} (h : NH H w b) : Lt w.heap.size b := h.1
end Go.Proofs.Ytpapoalgocmlaaa
