/- Trees that come of puts, one behind the other: the plain law; the shape of nine. No program in sight. -/
import Derived.Test.YtpapoalgocmlaaaPut
import Derived.Test.YtpapoalgocmlaaaDelP
namespace Go.Proofs.Ytpapoalgocmlaaa
open Go.RowKit
set_option linter.unusedVariables false

/-- A tree that comes of putting entries, one behind the other, into none. -/
inductive BuiltR : List Ent → RT → Prop
  | nil : BuiltR [] none
  | snoc {es : List Ent} {T T' : RT} {B : Nat} {k : ByteArray} {v : Val} (h : BuiltR es T) (hp : PutR B k v T T') : BuiltR (es ++ [(k, v)]) T'
def putAll (es : List Ent) (l : List Ent) : List Ent := l.foldl (fun m e => insE m e.1 e.2) es
theorem putAll_snoc (es l : List Ent) (e : Ent) : putAll es (l ++ [e]) = insE (putAll es l) e.1 e.2 := by simp [putAll]
theorem putAll_len (l : List Ent) : ∀ es : List Ent, (putAll es l).length ≤ es.length + l.length := by
  induction l with
  | nil => intro es; exact Nat.le_refl _
  | cons a l ih =>
    intro es
    have := ih (insE es a.1 a.2)
    have h2 := insE_len es a.1 a.2
    simp only [putAll, List.foldl_cons, List.length_cons] at *
    omega
theorem BuiltR.both {l : List Ent} {T : RT} (h : BuiltR l T) : (OkR T) ∧ entsT T = putAll [] l := by
  induction h with
  | nil => exact ⟨trivial, rfl⟩
  | snoc h hp ih => exact ⟨hp.ok ih.1, by rw [hp.ents ih.1, ih.2, putAll_snoc]⟩
theorem insE_last {es : List Ent} {k : ByteArray} {v : Val} (h : ∀ e ∈ es, klt e.1 k = true) : insE es k v = es ++ [(k, v)] := by
  have := insE_app h [] v
  rwa [List.append_nil] at this
theorem sorted_snoc {es : List Ent} {e : Ent} (h : Sorted (es ++ [e])) : Sorted es ∧ ∀ x ∈ es, klt x.1 e.1 = true := by
  have := sorted_app h
  exact ⟨this.1, fun x hx => this.2.2 x hx e (List.mem_singleton.2 rfl)⟩
theorem putR_leaf {B : Nat} {k : ByteArray} {v : Val} {t : PT 0} {T' : RT} (hp : PutR B k v (some ⟨0, t⟩) T') (h8 : (insE t.2 k v).length ≤ 8) : ∃ u : PT 0, T' = some ⟨0, u⟩ ∧ u.2 = insE t.2 k v := by
  have hch : chunk (insE t.2 k v) = [insE t.2 k v] := by simp [chunk, h8]
  cases hp with
  | one hw =>
    cases hw with
    | some hw =>
      have h1 := hw.1
      rw [hch] at h1
      obtain ⟨x, hx, e⟩ := one0 h1
      simp only [List.cons.injEq, and_true] at hx
      exact ⟨_, rfl, by rw [hx]; exact e⟩
  | two hw hc hb =>
    cases hw with
    | some hw =>
      have h1 := hw.1
      rw [hch] at h1
      obtain ⟨x, hx, e⟩ := one0 h1
      simp at hx
theorem putR_split {B : Nat} {k : ByteArray} {v : Val} {t : PT 0} {T' : RT} (hp : PutR B k v (some ⟨0, t⟩) T') (h9 : (insE t.2 k v).length = 9) : ∃ (c : PT 1) (x y : PT 0), T' = some ⟨1, c⟩ ∧ c.2 = [x, y] ∧ x.2.length = 4 ∧ y.2.length = 5 := by
  have hch : chunk (insE t.2 k v) = [(insE t.2 k v).take 4, (insE t.2 k v).drop 4] := by simp [chunk, h9]
  cases hp with
  | one hw =>
    cases hw with
    | some hw =>
      have h1 := hw.1
      rw [hch] at h1
      obtain ⟨x, y, hx, e⟩ := two0 h1
      simp at hx
  | two hw hc hb =>
    cases hw with
    | some hw =>
      have h1 := hw.1
      rw [hch] at h1
      obtain ⟨x, y, hx, e1, e2⟩ := two0 h1
      simp only [List.cons.injEq, and_true] at hx
      obtain ⟨rfl, rfl⟩ := hx
      exact ⟨_, _, _, rfl, hc, by rw [e1, List.length_take]; omega, by rw [e2, List.length_drop]; omega⟩
theorem putR_none {B : Nat} {k : ByteArray} {v : Val} {T' : RT} (hp : PutR B k v none T') : ∃ u : PT 0, T' = some ⟨0, u⟩ ∧ u.2 = [(k, v)] := by
  cases hp with
  | one hw => cases hw with | none u hu hb => exact ⟨_, rfl, hu⟩
  | two hw hc hb => cases hw
theorem built_small {l : List Ent} {T : RT} (h : BuiltR l T) : Sorted l → l.length ≤ 8 → (l = [] ∧ T = none) ∨ ∃ t : PT 0, T = some ⟨0, t⟩ ∧ t.2 = l := by
  induction h with
  | nil => intro _ _; exact .inl ⟨rfl, rfl⟩
  | snoc h hp ih =>
    rename_i es T T' B k v
    intro hs hl
    obtain ⟨h1, h2⟩ := sorted_snoc hs
    simp only [List.length_append, List.length_cons, List.length_nil] at hl
    rcases ih h1 (by omega) with ⟨rfl, rfl⟩ | ⟨t, rfl, rfl⟩
    · exact .inr (putR_none hp)
    · have e : insE t.2 k v = t.2 ++ [(k, v)] := insE_last h2
      obtain ⟨u, rfl, hu⟩ := putR_leaf hp (by rw [e]; simp; omega)
      exact .inr ⟨u, rfl, by rw [hu, e]⟩
theorem built_nine {l : List Ent} {T : RT} (h : BuiltR l T) (hs : Sorted l) (hl : l.length = 9) : ∃ (c : PT 1) (x y : PT 0), T = some ⟨1, c⟩ ∧ c.2 = [x, y] ∧ x.2.length = 4 ∧ y.2.length = 5 := by
  cases h with
  | nil => simp at hl
  | snoc h hp =>
    rename_i es T B k v
    obtain ⟨h1, h2⟩ := sorted_snoc hs
    simp only [List.length_append, List.length_cons, List.length_nil] at hl
    rcases built_small h h1 (by omega) with ⟨rfl, rfl⟩ | ⟨t, rfl, rfl⟩
    · simp at hl
    · have e : insE t.2 k v = t.2 ++ [(k, v)] := insE_last h2
      exact putR_split hp (by rw [e]; simp; omega)

/-- The first letters, each its number. -/
def letterE (i : Nat) : Ent := (⟨#[UInt8.ofNat (97 + i)]⟩, .mk 3 false i ByteArray.empty [] [] [])
theorem letters_lt {i j : Nat} (hij : i < j) (hj : j < 26) : klt (letterE i).1 (letterE j).1 = true := by
  show Op.bytesLess (ByteArray.mk #[UInt8.ofNat (97 + i)]).toList (ByteArray.mk #[UInt8.ofNat (97 + j)]).toList = true
  rw [ByteArray.toList_eq, ByteArray.toList_eq]
  simp only [Op.bytesLess, Bool.or_eq_true, decide_eq_true_eq]
  refine .inl ?_
  rw [UInt8.lt_iff_toNat_lt, UInt8.toNat_ofNat', UInt8.toNat_ofNat']
  omega
def lettersE (n : Nat) : List Ent := (List.range n).map letterE
theorem lettersE_succ (n : Nat) : lettersE (n + 1) = lettersE n ++ [letterE n] := by simp [lettersE, List.range_succ]
theorem lettersE_sorted : ∀ n, n ≤ 26 → Sorted (lettersE n)
  | 0, _ => List.Pairwise.nil
  | n + 1, h => by
    rw [lettersE_succ]
    refine List.pairwise_append.2 ⟨lettersE_sorted n (by omega), List.pairwise_singleton .., fun a ha b hb => ?_⟩
    rw [List.mem_singleton.1 hb]
    obtain ⟨i, hi, rfl⟩ := List.mem_map.1 ha
    exact letters_lt (List.mem_range.1 hi) (by omega)
end Go.Proofs.Ytpapoalgocmlaaa
