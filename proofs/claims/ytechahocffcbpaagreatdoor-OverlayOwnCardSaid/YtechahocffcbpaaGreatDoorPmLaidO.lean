/- What the row's listed tables give: the library's contracts at the start world. -/
import Derived.Test.YtechahocffcbpaaGreatDoorPma
import Derived.Test.YtechahocffcbpaaGreatDoorPmb
import Derived.Test.YtechahocffcbpaaGreatDoorPmc
import Derived.Test.YtechahocffcbpaaGreatDoorPmd
import Derived.Test.YtechahocffcbpaaGreatDoorPme
import Derived.Test.YtechahocffcbpaaGreatDoorPmf
import Derived.Test.YtechahocffcbpaaGreatDoorPmg
import Derived.Test.YtechahocffcbpaaGreatDoorPmh
import Derived.Lib.LaidU8
import Derived.Lib.LaidTab
import Derived.Lib.ItoaLen
import GoSem.PinnedTables
import Derived.KernelRfl
import Derived.Test.YtechahocffcbpaaGreatDoorRows
namespace Go.Proofs.YtechahocffcbpaaGreatDoor
open Go.RowKit Go.Maps Go.Shelf
set_option linter.unusedVariables false
set_option linter.unusedSimpArgs false
set_option maxRecDepth 100000
theorem nw_growO (w : World) (os : Array Obj) : Nw w (Go.Sort.grow w os) :=
  ⟨rfl, rfl, rfl, by simp [Go.Sort.grow], fun i hi _ => by simp [Go.Sort.grow, Array.getElem?_append_left hi]⟩
theorem fmt_any {w : World} (n : Int) (h0 : -9223372036854775808 ≤ n) (h1 : n ≤ 9223372036854775807) (ht : Lib.TabIs Tryz.prog w "internal/strconv.uint64pow10" .u64 Lib.pow10Tab) : FmtOK n w :=
  (Any.strconv_FormatInt_10 Tryz.layFormatInt n h0 h1 w ht).mono fun e w' h => by
    obtain ⟨he, k, os, rfl⟩ := h
    exact ⟨_, he, by have := Lib.itoa_length_le n h0 h1; simpa [ByteArray.size] using this, (Nw.of ((Ext.refl w).drewN k)).trans (nw_growO _ os)⟩
theorem val_any {w : World} (s : ByteArray) (hs : s.size ≤ maxLen) (hT : Lib.Utf8Tabs 0 1 w) : Calls Tryz.prog 136 #[.string s] w fun e w' => e = .returned (.bool (Lib.validD s.data.toList)) ∧ Nw w w' :=
  (Any.utf8_ValidString Tryz.layValid s w (Nat.le_trans hs (by decide)) hT).mono fun e w' h => ⟨h.1, Sb.new h.2⟩
theorem tab_g6 {w W : World} (h : G5 w W) (ht : Lib.TabIs Tryz.prog w "internal/strconv.uint64pow10" .u64 Lib.pow10Tab) : Lib.TabIs Tryz.prog W "internal/strconv.uint64pow10" .u64 Lib.pow10Tab := by
  have hg : Tryz.prog.globalNamed "internal/strconv.uint64pow10" = some 3 := by kernel_rfl
  unfold Lib.TabIs World.var? at *
  rw [hg] at ht ⊢
  simp only [Option.bind_some] at ht ⊢
  rw [h 3 (by decide)]
  exact ht
theorem u8_g6 {w W : World} (h : G5 w W) (ht : Lib.Utf8Tabs 0 1 w) : Lib.Utf8Tabs 0 1 W := by
  have hc : ∀ b o, b < 6 → W.cell? ⟨b, o, none⟩ = w.cell? ⟨b, o, none⟩ := fun b o hb => World.cell?_of_block (w := w) (a := ⟨b, o, none⟩) (h b hb)
  exact ⟨fun c h => (hc 0 _ (by decide)).trans (ht.1 c h), fun i h => ⟨(hc 1 _ (by decide)).trans (ht.2 i h).1, (hc 1 _ (by decide)).trans (ht.2 i h).2⟩⟩
theorem first_eqO : Go.Pinned.utf8First = Lib.firstData := by kernel_rfl
theorem accept_eqO : (Rows.laid_unicode_utf8_acceptRanges : DataW Unit) = Lib.acceptData := by kernel_rfl
theorem pow_eqO : (Rows.laid_internal_strconv_uint64pow10 : DataW Unit) = Lib.tabData .u64 Lib.pow10Tab := by kernel_rfl
theorem n0 : Tryz.prog.globalNamed "unicode/utf8.first" = some 0 := by kernel_rfl
theorem n1 : Tryz.prog.globalNamed "unicode/utf8.acceptRanges" = some 1 := by kernel_rfl
theorem n3 : Tryz.prog.globalNamed "internal/strconv.uint64pow10" = some 3 := by kernel_rfl
theorem n5 : Tryz.prog.globalNamed "math/bits.deBruijn64tab" = some 5 := by kernel_rfl
theorem ty0 : (Tryz.prog.globals[0]?).map (·.type) = some 219 := by kernel_rfl
theorem ty1 : (Tryz.prog.globals[1]?).map (·.type) = some 222 := by kernel_rfl
theorem ty3 : (Tryz.prog.globals[3]?).map (·.type) = some 252 := by kernel_rfl
theorem c5 : Tryz.prog.cellsOf 5 = 1 := by kernel_rfl
theorem c187 : Tryz.prog.cellsOf 187 = 1 := by kernel_rfl
theorem c219 : Tryz.prog.cellsOf 219 = 256 := by kernel_rfl
theorem c221 : Tryz.prog.cellsOf 221 = 2 := by kernel_rfl
theorem c252 : Tryz.prog.cellsOf 252 = 20 := by kernel_rfl
/-- The five tables, as every row of this chapter lists them. -/
abbrev laid5 : List (String × DataW Unit) := [("math/bits.deBruijn32tab", Rows.laid_math_bits_deBruijn32tab), ("math/bits.deBruijn64tab", Rows.laid_math_bits_deBruijn64tab), ("internal/strconv.uint64pow10", Rows.laid_internal_strconv_uint64pow10), ("unicode/utf8.acceptRanges", Rows.laid_unicode_utf8_acceptRanges), ("unicode/utf8.first", Rows.laid_unicode_utf8_first)]
theorem reads_u8 {w : World} (h3 : Lib.VarReads Tryz.prog w "unicode/utf8.first" Lib.firstData) (h4 : Lib.VarReads Tryz.prog w "unicode/utf8.acceptRanges" Lib.acceptData) : Lib.Utf8Tabs 0 1 w := by
  refine ⟨fun c hc => ?_, fun i hi => ?_⟩
  · obtain ⟨g, t, cs, fuel, p, hg, hty, hvar, hd⟩ := h3
    obtain rfl := Option.some.inj (n0.symm.trans hg)
    obtain rfl := Option.some.inj (ty0.symm.trans hty)
    have hcs := Lib.cells_of_tab Tryz.underlying219 Tryz.underlying5 c5 c219 hd
    rw [World.var?_cell hg hvar c, ← Array.getElem?_toList, hcs]
    simp [Lib.firstTab, hc]
  · obtain ⟨g, t, cs, fuel, p, hg, hty, hvar, hd⟩ := h4
    obtain rfl := Option.some.inj (n1.symm.trans hg)
    obtain rfl := Option.some.inj (ty1.symm.trans hty)
    obtain ⟨fuel', d, q, hdi, he⟩ := Lib.array_elem Tryz.underlying222 hd i hi
    simp only [List.getElem?_map, List.getElem?_range hi, Option.map_some, Option.some.injEq] at hdi
    subst hdi
    rw [c221] at he
    have hcs := Lib.ints_of_struct Tryz.underlying221 (fun j f hj => by
      match j, hj with
      | 0, hj => simp at hj; subst hj; exact ⟨Tryz.underlying5, rfl, c5⟩
      | 1, hj => simp at hj; subst hj; exact ⟨Tryz.underlying5, rfl, c5⟩
      | j + 2, hj => simp at hj) (by rw [c221]; rfl) he
    have e0 := congrArg (·[0]?) hcs
    have e1 := congrArg (·[1]?) hcs
    simp only [List.getElem?_take, List.getElem?_drop] at e0 e1
    constructor
    · rw [World.var?_cell hg hvar (2 * i), ← Array.getElem?_toList]
      simpa [Nat.mul_comm] using e0
    · rw [World.var?_cell hg hvar (2 * i + 1), ← Array.getElem?_toList]
      simpa [Nat.mul_comm] using e1
theorem reads_pow {w : World} (h : Lib.VarReads Tryz.prog w "internal/strconv.uint64pow10" (Lib.tabData .u64 Lib.pow10Tab)) : Lib.TabIs Tryz.prog w "internal/strconv.uint64pow10" .u64 Lib.pow10Tab := by
  obtain ⟨g, t, cs, fuel, p, hg, hty, hvar, hd⟩ := h
  obtain rfl := Option.some.inj (n3.symm.trans hg)
  obtain rfl := Option.some.inj (ty3.symm.trans hty)
  unfold Lib.TabIs
  rw [hvar, ← Lib.cells_of_tab Tryz.underlying252 Tryz.underlying187 c187 c252 hd]
theorem reads_big {w : World} {d : DataW Unit} (h : Lib.VarReads Tryz.prog w "math/bits.deBruijn64tab" d) : 6 ≤ w.heap.size := by
  obtain ⟨g, t, cs, fuel, p, hg, hty, hvar, hd⟩ := h
  unfold World.var? at hvar
  rw [n5, Option.bind_some] at hvar
  have : (w.heap[5]?).isSome := by
    cases hh : w.heap[5]? with
    | none => rw [hh] at hvar; cases hvar
    | some o => rfl
  have := (Array.getElem?_eq_some_iff.1 (Option.some_get this).symm).1
  omega
theorem lib0_of {w : World} (h : laidMetH Tryz.prog laid5 w) : Lib0 w := by
  have h' : laidMet Tryz.prog laid5 w := h
  have hf := Lib.laidMet.reads h' (n := "unicode/utf8.first") (d := Rows.laid_unicode_utf8_first) (by simp [laid5])
  have ha := Lib.laidMet.reads h' (n := "unicode/utf8.acceptRanges") (d := Rows.laid_unicode_utf8_acceptRanges) (by simp [laid5])
  have hp := Lib.laidMet.reads h' (n := "internal/strconv.uint64pow10") (d := Rows.laid_internal_strconv_uint64pow10) (by simp [laid5])
  have hb := Lib.laidMet.reads h' (n := "math/bits.deBruijn64tab") (d := Rows.laid_math_bits_deBruijn64tab) (by simp [laid5])
  rw [show Rows.laid_unicode_utf8_first = Lib.firstData from first_eqO] at hf
  rw [accept_eqO] at ha
  rw [pow_eqO] at hp
  exact ⟨reads_big hb, fun W hW n h0 h1 => fmt_any n h0 h1 (tab_g6 hW (reads_pow hp)), fun W hW s hs => val_any s hs (u8_g6 hW (reads_u8 hf ha))⟩
end Go.Proofs.YtechahocffcbpaaGreatDoor
