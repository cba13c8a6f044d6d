/- Shapes of nodes, as data: what the document's functions on them come to; the shape of a tree. No program in sight. -/
import Derived.Test.YtpapoalgocmlaaaDelP
import Derived.Test.YtpapoalgocmlaaaCmpP
namespace Go.Proofs.Ytpapoalgocmlaaa
open Go.RowKit
set_option linter.unusedVariables false

inductive Sh where
  | mk (es : List Ent) (ks : List Sh)
def Sh.es : Sh → List Ent | .mk e _ => e
def Sh.ks : Sh → List Sh | .mk _ k => k
theorem Sh.sz_pos (d : Sh) : 0 < SizeOf.sizeOf d := by cases d; simp only [Sh.mk.sizeOf_spec]; omega
theorem Sh.sz_k {es : List Ent} {ks : List Sh} {j : Nat} {d : Sh} (h : ks[j]? = some d) : SizeOf.sizeOf d < SizeOf.sizeOf (Sh.mk es ks) := by
  have := List.sizeOf_lt_of_mem (List.mem_of_getElem? h)
  simp only [Sh.mk.sizeOf_spec]; omega
mutual
def flatS : Sh → List Ent
  | .mk es ks => if ks.isEmpty then es else flatL ks
def flatL : List Sh → List Ent
  | [] => []
  | k :: ks => flatS k ++ flatL ks
end
mutual
def heightS : Sh → Nat
  | .mk _ ks => heightL ks
def heightL : List Sh → Nat
  | [] => 0
  | k :: _ => heightS k + 1
end
mutual
def nodesS : Sh → Nat
  | .mk _ ks => nodesL ks + 1
def nodesL : List Sh → Nat
  | [] => 0
  | k :: ks => nodesS k + nodesL ks
end
mutual
def soundS : Bool → Sh → Bool
  | root, .mk es ks => (root || decide (4 ≤ es.length + ks.length)) && soundL ks
def soundL : List Sh → Bool
  | [] => true
  | k :: ks => soundS false k && soundL ks
end
/-- Do the keys rise? -/
def risesE : List Ent → Bool
  | [] => true
  | [_] => true
  | a :: b :: l => klt a.1 b.1 && risesE (b :: l)
mutual
def mayS : Sh → Bool
  | .mk es ks => (if ks.isEmpty then decide (es.length ≤ 8) else es.isEmpty && decide (2 ≤ ks.length) && decide (ks.length ≤ 8) && mayL (heightL ks - 1) ks) && risesE (flatS (.mk es ks))
def mayL : Nat → List Sh → Bool
  | _, [] => true
  | h, k :: ks => mayS k && decide (0 < (flatS k).length) && decide (heightS k = h) && mayL h ks
end
theorem flatL_eq : ∀ ks : List Sh, flatL ks = ks.flatMap flatS
  | [] => rfl
  | k :: ks => by simp [flatL, flatL_eq ks]
theorem risesE_sorted : ∀ {l : List Ent}, Sorted l → risesE l = true
  | [], _ => rfl
  | [_], _ => rfl
  | a :: b :: l, h => by
    have h' := List.pairwise_cons.1 h
    simp only [risesE, Bool.and_eq_true]
    exact ⟨h'.1 b (List.mem_cons_self ..), risesE_sorted h'.2⟩
theorem sorted_risesE : ∀ {l : List Ent}, risesE l = true → Sorted l
  | [], _ => List.Pairwise.nil
  | [_], _ => List.pairwise_singleton ..
  | a :: b :: l, h => by
    simp only [risesE, Bool.and_eq_true] at h
    have ih := sorted_risesE h.2
    refine List.pairwise_cons.2 ⟨fun x hx => ?_, ih⟩
    rcases List.mem_cons.1 hx with rfl | hx
    · exact h.1
    · exact klt_trans h.1 ((List.pairwise_cons.1 ih).1 x hx)

/-- The shape of a node. -/
def shOf : (h : Nat) → PT h → Sh
  | 0, t => .mk t.2 []
  | h + 1, t => .mk [] (t.2.map (shOf h))
theorem shOf_flat : ∀ {h : Nat} {t : PT h}, OkT h t → flatS (shOf h t) = ents h t
  | 0, t, _ => by simp [shOf, flatS, ents]
  | h + 1, t, ok => by
    have hne : (t.2.map (shOf h)).isEmpty = false := by
      have := ok.1
      cases ht : t.2 with
      | nil => rw [ht] at this; simp at this
      | cons a l => rfl
    simp only [shOf, flatS, hne, Bool.false_eq_true, if_false, flatL_eq, ents]
    rw [List.flatMap_map]
    have : ∀ (l : List (PT h)), (∀ x ∈ l, OkT h x) → l.flatMap (fun a => flatS (shOf h a)) = l.flatMap (ents h) := by
      intro l
      induction l with
      | nil => intro _; rfl
      | cons a l ih =>
        intro hl
        rw [List.flatMap_cons, List.flatMap_cons, ih fun x hx => hl x (List.mem_cons_of_mem _ hx), shOf_flat (hl a (List.mem_cons_self ..))]
    exact this _ fun x hx => (ok.2.2 x hx).1
theorem shOf_height : ∀ {h : Nat} {t : PT h}, OkT h t → heightS (shOf h t) = h
  | 0, t, _ => by simp [shOf, heightS, heightL]
  | h + 1, t, ok => by
    have h2 := ok.1
    have hk := ok.2.2
    cases ht : t.2 with
    | nil => rw [ht] at h2; simp at h2
    | cons a l =>
      simp only [shOf, ht, List.map_cons, heightS, heightL]
      rw [shOf_height (hk a (by rw [ht]; exact List.mem_cons_self ..)).1]
theorem shOf_size : ∀ (h : Nat) (t : PT h), (shOf h t).es.length + (shOf h t).ks.length = size h t
  | 0, t => by simp [shOf, Sh.es, Sh.ks, size]
  | h + 1, t => by simp [shOf, Sh.es, Sh.ks, size]
theorem shOf_sound (root : Bool) : ∀ {h : Nat} {t : PT h}, OkT h t → (root = true ∨ 4 ≤ size h t) → soundS root (shOf h t) = true
  | 0, t, ok, hr => by
    simp only [shOf, soundS, soundL, Bool.and_true, List.length_nil, Nat.add_zero, Bool.or_eq_true, decide_eq_true_eq]
    exact hr
  | h + 1, t, ok, hr => by
    simp only [shOf, soundS, List.length_nil, Nat.zero_add, List.length_map, Bool.and_eq_true, Bool.or_eq_true, decide_eq_true_eq]
    refine ⟨hr, ?_⟩
    have : ∀ (l : List (PT h)), (∀ x ∈ l, OkT h x ∧ 4 ≤ size h x) → soundL (l.map (shOf h)) = true := by
      intro l
      induction l with
      | nil => intro _; rfl
      | cons a l ih =>
        intro hl
        have ha := hl a (List.mem_cons_self ..)
        simp only [List.map_cons, soundL, Bool.and_eq_true]
        exact ⟨shOf_sound false ha.1 (.inr ha.2), ih fun x hx => hl x (List.mem_cons_of_mem _ hx)⟩
    exact this _ ok.2.2
theorem shOf_may : ∀ {h : Nat} {t : PT h}, OkT h t → Sorted (ents h t) → mayS (shOf h t) = true
  | 0, t, ok, hs => by
    have ok : t.2.length ≤ 8 := ok
    simp only [shOf, mayS, List.isEmpty_nil, if_true, flatS, Bool.and_eq_true, decide_eq_true_eq]
    exact ⟨ok, risesE_sorted hs⟩
  | h + 1, t, ok, hs => by
    have hf := shOf_flat ok
    have hh := shOf_height ok
    have hne : (t.2.map (shOf h)).isEmpty = false := by
      have := ok.1
      cases ht : t.2 with
      | nil => rw [ht] at this; simp at this
      | cons a l => rfl
    simp only [shOf] at hf hh ⊢
    simp only [heightS] at hh
    simp only [mayS, hne, Bool.false_eq_true, if_false, hf, hh, List.isEmpty_nil, Bool.true_and, List.length_map, Bool.and_eq_true, decide_eq_true_eq, Nat.add_sub_cancel]
    refine ⟨⟨⟨ok.1, ok.2.1⟩, ?_⟩, risesE_sorted hs⟩
    have : ∀ (l : List (PT h)), (∀ x ∈ l, OkT h x ∧ 4 ≤ size h x ∧ Sorted (ents h x)) → mayL h (l.map (shOf h)) = true := by
      intro l
      induction l with
      | nil => intro _; rfl
      | cons a l ih =>
        intro hl
        have ha := hl a (List.mem_cons_self ..)
        simp only [List.map_cons, mayL, Bool.and_eq_true, decide_eq_true_eq]
        exact ⟨⟨⟨shOf_may ha.1 ha.2.2, by rw [shOf_flat ha.1]; exact ents_pos h a ha.1 (by omega)⟩, shOf_height ha.1⟩, ih fun x hx => hl x (List.mem_cons_of_mem _ hx)⟩
    exact this _ fun x hx => ⟨(ok.2.2 x hx).1, (ok.2.2 x hx).2, kid_sorted hs x hx⟩
/-- A node that is full enough has so many entries; a root that is no leaf half of that. -/
theorem ents_least : ∀ {h : Nat} {t : PT h}, OkT h t → 4 ≤ size h t → 4 ^ (h + 1) ≤ (ents h t).length
  | 0, t, _, h4 => h4
  | h + 1, t, ok, h4 => by
    have h4 : 4 ≤ t.2.length := h4
    have : ∀ (l : List (PT h)), (∀ x ∈ l, OkT h x ∧ 4 ≤ size h x) → l.length * 4 ^ (h + 1) ≤ (l.flatMap (ents h)).length := by
      intro l
      induction l with
      | nil => intro _; simp
      | cons a l ih =>
        intro hl
        have ha := hl a (List.mem_cons_self ..)
        have h1 := ents_least ha.1 ha.2
        have h2 := ih fun x hx => hl x (List.mem_cons_of_mem _ hx)
        rw [List.flatMap_cons, List.length_append, List.length_cons, Nat.add_mul]
        omega
    have h1 := this t.2 ok.2.2
    rw [Nat.pow_succ]
    show _ ≤ (t.2.flatMap (ents h)).length
    have : 4 * 4 ^ (h + 1) ≤ t.2.length * 4 ^ (h + 1) := Nat.mul_le_mul_right _ h4
    omega
theorem ents_least2 {h : Nat} {t : PT (h + 1)} (ok : OkT (h + 1) t) : 2 * 4 ^ (h + 1) ≤ (ents (h + 1) t).length := by
  have : ∀ (l : List (PT h)), (∀ x ∈ l, OkT h x ∧ 4 ≤ size h x) → l.length * 4 ^ (h + 1) ≤ (l.flatMap (ents h)).length := by
    intro l
    induction l with
    | nil => intro _; simp
    | cons a l ih =>
      intro hl
      have ha := hl a (List.mem_cons_self ..)
      have h1 := ents_least ha.1 ha.2
      have h2 := ih fun x hx => hl x (List.mem_cons_of_mem _ hx)
      rw [List.flatMap_cons, List.length_append, List.length_cons, Nat.add_mul]
      omega
  have h1 := this t.2 ok.2.2
  show _ ≤ (t.2.flatMap (ents h)).length
  have : 2 * 4 ^ (h + 1) ≤ t.2.length * 4 ^ (h + 1) := Nat.mul_le_mul_right _ ok.1
  omega
end Go.Proofs.Ytpapoalgocmlaaa
