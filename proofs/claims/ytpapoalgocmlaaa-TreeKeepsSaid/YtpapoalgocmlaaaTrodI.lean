/- What is read of an argument that is a list of integers. -/
import Derived.Test.YtpapoalgocmlaaaMf
namespace Go.Proofs.Ytpapoalgocmlaaa
open Go.RowKit
set_option linter.unusedVariables false
set_option maxRecDepth 100000
/-- A list of integers in memory. -/
structure IS (w : World) (F : Nat → Prop) (s : Sl) (xs : List Int) : Prop where
  ex : ∃ b o, SlAt F s xs.length b o ∧ ∀ j x, xs[j]? = some x → w.cell? ⟨b, o + j, none⟩ = some (.int .i64 x)
  wf : ∀ x ∈ xs, (Lit.int .i64 x).wf = true
  few : xs.length * 8 ≤ 140737488355328
theorem IS.at {w : World} {F : Nat → Prop} {s : Sl} {xs : List Int} (h : IS w F s xs) {i : Nat} {x : Int} (hx : xs[i]? = some x) : ∃ b o, s.a = some ⟨b, o, none⟩ ∧ F b ∧ xs.length ≤ s.c ∧ s.c ≤ maxLen ∧ w.cell? ⟨b, o + i, none⟩ = some (.int .i64 x) ∧ (Lit.int .i64 x).wf = true := by
  obtain ⟨b, o, h1, h2⟩ := h.ex
  obtain ⟨e1, e2, e3⟩ := h1.eq (lt_length hx)
  exact ⟨b, o, e1, h1.fits (lt_length hx), e2, e3, h2 i x hx, h.wf x (List.mem_of_getElem? hx)⟩
theorem IS.agree {w w' : World} {F : Nat → Prop} {s : Sl} {xs : List Int} (h : IS w F s xs) (ha : Agree F w w') : IS w' F s xs := by
  obtain ⟨⟨b, o, h1, h2⟩, h3, h4⟩ := h
  exact ⟨⟨b, o, h1, fun j x hx => (ha.cell (h1.fits (lt_length hx))).trans (h2 j x hx)⟩, h3, h4⟩
theorem cellsOfInt : Try.prog.cellsOf 3 = 1 := by kernel_rfl
theorem bytesOfInt : Try.prog.bytesOf 3 = 8 := by kernel_rfl
theorem ints_of_trod {H : Type} {enc : TypeId × Value → H} {w : World} {held : Bool} {fuel : Nat} {cs : List Value} {x : DataW H × List MemPlace} (h : tr enc Try.prog w held fuel 62 cs = some x) (hw : WOk Try.prog 62 x.1) : ∃ (s : Sl) (xs : List Int), cs = [.slice s.a xs.length s.c] ∧ IS w (Lt w.heap.size) s xs := by
  obtain ⟨n, len, s, b, o, -, hc, hs, hby, he⟩ := trod_rows (e := 3) (C := 1) (B := 8) Try.underlying62 cellsOfInt bytesOfInt (by decide) h hw
  have hE : ∀ i, i < len → ∃ a : Int, w.cell? ⟨b, o + i, none⟩ = some (.int .i64 a) ∧ (Lit.int .i64 a).wf = true := fun i hi => by
    obtain ⟨cs', y, hl1, hc, ht, hw⟩ := he i hi
    obtain ⟨n, rfl, hn⟩ := trod_i (k := .i64) (by kernel_rfl) ht
    have := hc 0 (by decide)
    rw [Nat.mul_one, Nat.add_zero] at this
    exact ⟨n, this, hn⟩
  obtain ⟨f, hf⟩ := skolem hE
  refine ⟨s, (List.range len).map f, by rw [List.length_map, List.length_range]; exact hc, ⟨⟨b, o, by rw [List.length_map, List.length_range]; exact hs, fun j x hj => ?_⟩, fun x hx => ?_, by rw [List.length_map, List.length_range]; omega⟩⟩
  · obtain ⟨h1, rfl⟩ := ofFn_get hj
    exact (hf j h1).1
  · obtain ⟨j, hj⟩ := List.getElem?_of_mem hx
    obtain ⟨h1, rfl⟩ := ofFn_get hj
    exact (hf j h1).2
end Go.Proofs.Ytpapoalgocmlaaa
