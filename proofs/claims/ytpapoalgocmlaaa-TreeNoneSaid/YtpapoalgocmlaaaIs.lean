/- Tree.Is, Tree.Root. -/
import Derived.Test.YtpapoalgocmlaaaPut
namespace Go.Proofs.Ytpapoalgocmlaaa
open Go.RowKit
set_option linter.unusedVariables false
set_option linter.unusedSimpArgs false

theorem eql_nil_some {P : Program} (w : World) {tp te : TypeId} (a : Addr) (hp : P.underlying tp = some (.pointer te)) :
    (binOp .eql tp (.pointer none) (.pointer (some a))).run P w = .ok (.bool false) w := by
  have h : ∀ d : Nat, (Op.equalIn (d + 1) tp (.pointer none) (.pointer (some a))).run P w = .ok false w := fun d => by
    simp [Op.equalIn, run_underlying hp]
  simp only [binOp]
  simp [Op.equal, Op.maxDepth, h 9999]
theorem is_info : ∃ j, Try.prog.info? 175 = some j ∧ j.size ≠ 0 := by
  have h : ((Try.prog.info? 175).map fun i => decide (i.size ≠ 0)) = some true := by kernel_rfl
  cases hj : Try.prog.info? 175 with
  | none => rw [hj] at h; cases h
  | some j => rw [hj] at h; exact ⟨j, rfl, by simpa using h⟩

set_option maxRecDepth 100000 in
theorem is_same (w : World) (p : Option Addr) : Calls Try.prog 35 #[.agg #[.pointer p], .agg #[.pointer p]] w fun e w' => e = .returned (.bool true) ∧ Ext w w' := by
  obtain ⟨j, hj, -⟩ := is_info
  cases p with
  | none =>
    go_enter Try.func35, Try.ntmps35
    go_wp2_with fail
    go_ret
    exact ⟨rfl, ((Ext.refl w).alloc _ _).alloc _ _⟩
  | some a =>
    have hs := fun W => run_eql_ptr_same (P := Try.prog) W a Try.underlying28 hj
    go_enter Try.func35, Try.ntmps35
    go_wp2_with fail
    go_ret
    exact ⟨rfl, ((Ext.refl w).alloc _ _).alloc _ _⟩

/-- A pointer that leads to a block of cells, or nowhere. -/
def Leads (w : World) (p : Option Addr) : Prop := ∀ a, p = some a → ∃ c t, w.heap[a.block]? = some (.cells c t (0, 0))
theorem Leads.agree {w w' : World} {p : Option Addr} (h : Leads w p) {F : Nat → Prop} (ha : Agree F w w') (hF : ∀ a, p = some a → F a.block) : Leads w' p := fun a e => by
  obtain ⟨c, t, hc⟩ := h a e
  exact ⟨c, t, (ha _ (hF a e)).trans hc⟩
theorem Leads.ext {w w' : World} {p : Option Addr} (h : Leads w p) (he : Ext w w') : Leads w' p := fun a e => by
  obtain ⟨c, t, hc⟩ := h a e
  have hl : a.block < w.heap.size := (Array.getElem?_eq_some_iff.1 hc).1
  exact ⟨c, t, (he.heap hl).trans hc⟩

set_option maxRecDepth 100000 in
theorem is_any (w : World) (p q : Option Addr) (hp : Leads w p) (hq : Leads w q) : Calls Try.prog 35 #[.agg #[.pointer p], .agg #[.pointer q]] w fun e w' => e = .returned (.bool (decide (p = q))) ∧ Ext w w' := by
  by_cases hpq : p = q
  · subst hpq; rw [decide_eq_true rfl]; exact is_same w p
  rw [decide_eq_false hpq]
  obtain ⟨j, hj, hz⟩ := is_info
  cases q with
  | none =>
    cases p with
    | none => exact absurd rfl hpq
    | some a =>
      go_enter Try.func35, Try.ntmps35
      go_wp2_with fail
      go_ret
      exact ⟨rfl, ((Ext.refl w).alloc _ _).alloc _ _⟩
  | some b =>
    cases p with
    | none =>
      have hs := fun W => eql_nil_some (P := Try.prog) W b Try.underlying28
      go_enter Try.func35, Try.ntmps35
      go_wp2_with fail
      go_ret
      exact ⟨rfl, ((Ext.refl w).alloc _ _).alloc _ _⟩
    | some a =>
      have hX := ((Ext.refl w).alloc #[.pointer (some a)] 30).alloc #[.pointer (some b)] 30
      obtain ⟨ca, ta, ha⟩ := (hp.ext hX) a rfl
      obtain ⟨cb, tb, hb⟩ := (hq.ext hX) b rfl
      have hne : a ≠ b := fun e => hpq (by rw [e])
      have hs := run_eql_ptr_other (P := Try.prog) _ Try.underlying28 hj hz hne ha hb
      clear hp hq hpq ha hb
      go_enter Try.func35, Try.ntmps35
      go_wp2_with fail
      go_ret
      exact ⟨rfl, ((Ext.refl w).alloc _ _).alloc _ _⟩
end Go.Proofs.Ytpapoalgocmlaaa
