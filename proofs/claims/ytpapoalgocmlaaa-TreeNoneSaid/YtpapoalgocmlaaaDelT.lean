/- What becomes of a tree when a key is deleted: the plain law. No program in sight. -/
import Derived.Test.YtpapoalgocmlaaaBuiltP
namespace Go.Proofs.Ytpapoalgocmlaaa
open Go.RowKit
set_option linter.unusedVariables false

/-- What Delete makes of a tree. -/
inductive DelT (B : Nat) (k : ByteArray) : RT → RT → Prop
  | no {T : RT} (h : getE (entsT T) k = none) : DelT B k T T
  | same {h : Nat} {t u : PT h} (hg : (getE (ents h t) k).isSome = true) (hd : DelR B k h t u) (hp : 0 < (ents h u).length) (h2 : h = 0 ∨ 2 ≤ size h u) : DelT B k (some ⟨h, t⟩) (some ⟨h, u⟩)
  | gone {t u : PT 0} (hg : (getE (ents 0 t) k).isSome = true) (hd : DelR B k 0 t u) (h0 : ents 0 u = []) : DelT B k (some ⟨0, t⟩) none
  | down {h : Nat} {t : PT (h + 1)} {u : PT h} (hg : (getE (ents (h + 1) t) k).isSome = true) (hd : DelK B k h (DelR B k h) t.2 [u]) : DelT B k (some ⟨h + 1, t⟩) (some ⟨h, u⟩)
theorem DelT.mono {A B : Nat} (hAB : A ≤ B) {k : ByteArray} {T T' : RT} (hd : DelT B k T T') : DelT A k T T' := by
  cases hd with
  | no h => exact .no h
  | same hg hd hp h2 => exact .same hg (hd.mono hAB) hp h2
  | gone hg hd h0 => exact .gone hg (hd.mono hAB) h0
  | down hg hd => exact .down hg (hd.mono hAB fun _ _ hr => hr.mono hAB)
theorem getE_entsT (h : Nat) (t : PT h) : entsT (some ⟨h, t⟩) = Proofs.Ytpapoalgocmlaaa.ents h t := rfl
theorem DelT.ents {B : Nat} {k : ByteArray} {T T' : RT} (hd : DelT B k T T') (ok : OkR T) : entsT T' = delE (entsT T) k := by
  cases hd with
  | no h => exact (delE_none h).symm
  | same hg hd hp h2 => exact hd.ents ok.1 ok.2.2
  | gone hg hd h0 => exact h0.symm.trans (hd.ents ok.1 ok.2.2)
  | down hg hd =>
    rename_i h t u
    have ok1 := ok.1
    have := hd.ents ok.2.2 (kids_pos ok1) (by have := ok1.1; omega) fun x y hx hr => hr.ents (ok1.2.2 x hx).1 (kid_sorted ok.2.2 x hx)
    rw [List.flatMap_cons, List.flatMap_nil, List.append_nil] at this
    exact this
theorem delK_root {B : Nat} {k : ByteArray} {h : Nat} {t : PT (h + 1)} {ks' : List (PT h)} (hd : DelK B k h (DelR B k h) t.2 ks') (ok : OkT (h + 1) t) (hs : Sorted (ents (h + 1) t)) (hg : (getE (ents (h + 1) t) k).isSome = true) :
    (∀ u ∈ ks', OkT h u ∧ 4 ≤ size h u) ∧ ks'.length ≤ t.2.length ∧ t.2.length ≤ ks'.length + 1 := by
  refine hd.ok ok.2.2 ok.1 fun x y hx hxk hr => ?_
  obtain ⟨kid2, hk2, hA, hC⟩ := which_split (h := h) (ks := t.2) hs (kids_pos ok) (by have := ok.1; omega) k
  rw [hxk] at hk2
  simp only [Option.some.injEq] at hk2
  subst hk2
  have := hr.ok (ok.2.2 x hx).1 (ok.2.2 x hx).2 (kid_sorted hs x hx) (by rw [← getE_kid hxk hA hC]; exact hg)
  exact ⟨this.1, this.2.1⟩
theorem DelT.ok {B : Nat} {k : ByteArray} {T T' : RT} (hd : DelT B k T T') (ok : OkR T) : OkR T' := by
  have hs : Sorted (entsT T') := by rw [hd.ents ok]; exact delE_sorted ok.sorted k
  cases hd with
  | no h => exact ok
  | same hg hd hp h2 =>
    rename_i h t u
    cases h with
    | zero =>
      have h1 := hd.1
      have : (delE t.2 k).length ≤ t.2.length := (delE_sublist t.2 k).length_le
      have o : t.2.length ≤ 8 := ok.1
      exact ⟨show u.2.length ≤ 8 by rw [h1]; omega, hp, hs⟩
    | succ h =>
      obtain ⟨h1, -⟩ := hd
      obtain ⟨a, b, c⟩ := delK_root h1 ok.1 ok.2.2 hg
      have h2 : 2 ≤ u.2.length := h2.resolve_left (by omega)
      have o8 := ok.1.2.1
      exact ⟨⟨h2, by omega, a⟩, show 1 ≤ u.2.length by omega, hs⟩
  | gone hg hd h0 => trivial
  | down hg hd =>
    obtain ⟨a, b, c⟩ := delK_root hd ok.1 ok.2.2 hg
    rename_i h t u
    have := a u (List.mem_singleton.2 rfl)
    exact ⟨this.1, by omega, hs⟩
end Go.Proofs.Ytpapoalgocmlaaa
