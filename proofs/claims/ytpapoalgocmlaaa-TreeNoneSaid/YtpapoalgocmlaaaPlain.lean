/- Keys and their order; sorted lists of entries; trees as data (each node with its block's number). No program and no memory in sight. -/
import Derived.Test.YtpapoalgocmlaaaMem
namespace Go.Proofs.Ytpapoalgocmlaaa

/-- Is the one key below the other? -/
abbrev klt (a b : ByteArray) : Bool := Op.bytesLess a.toList b.toList

theorem bl_irrefl : ∀ a : List UInt8, Op.bytesLess a a = false
  | [] => rfl
  | a :: x => by simp [Op.bytesLess, bl_irrefl x]
theorem bl_trans : ∀ a b c : List UInt8, Op.bytesLess a b = true → Op.bytesLess b c = true → Op.bytesLess a c = true
  | _, _, [], _, h => by simp [Op.bytesLess] at h
  | _, [], _ :: _, h, _ => by simp [Op.bytesLess] at h
  | [], _ :: _, _ :: _, _, _ => rfl
  | a :: x, b :: y, c :: z, h, h' => by
    simp only [Op.bytesLess, Bool.or_eq_true, Bool.and_eq_true, decide_eq_true_eq, beq_iff_eq] at h h' ⊢
    rcases h with h | ⟨rfl, h⟩ <;> rcases h' with h' | ⟨rfl, h'⟩
    · exact .inl (UInt8.lt_trans h h')
    · exact .inl h
    · exact .inl h'
    · exact .inr ⟨rfl, bl_trans x y z h h'⟩
theorem bl_total : ∀ a b : List UInt8, Op.bytesLess a b = false → Op.bytesLess b a = false → a = b
  | [], [], _, _ => rfl
  | [], _ :: _, h, _ => by simp [Op.bytesLess] at h
  | _ :: _, [], _, h => by simp [Op.bytesLess] at h
  | a :: x, b :: y, h, h' => by
    simp only [Op.bytesLess, Bool.or_eq_false_iff, decide_eq_false_iff_not, Bool.and_eq_false_iff, beq_eq_false_iff_ne] at h h'
    have e : a = b := by
      have h1 := h.1; have h2 := h'.1
      exact UInt8.le_antisymm (UInt8.not_lt.1 h2) (UInt8.not_lt.1 h1)
    subst e
    have h1 := h.2.resolve_left (by simp)
    have h2 := h'.2.resolve_left (by simp)
    rw [bl_total x y h1 h2]
theorem toList_inj {a b : ByteArray} (h : a.toList = b.toList) : a = b := by
  rw [ByteArray.toList_eq, ByteArray.toList_eq] at h
  cases a; cases b
  simp only [ByteArray.mk.injEq]
  exact Array.ext' h
theorem klt_irrefl (a : ByteArray) : klt a a = false := bl_irrefl _
theorem klt_trans {a b c : ByteArray} (h : klt a b = true) (k : klt b c = true) : klt a c = true := bl_trans _ _ _ h k
theorem klt_total {a b : ByteArray} (h : klt a b = false) (k : klt b a = false) : a = b := toList_inj (bl_total _ _ h k)
theorem klt_asymm {a b : ByteArray} (h : klt a b = true) : klt b a = false := by
  cases hb : klt b a
  · rfl
  · have := klt_trans h hb; rw [klt_irrefl] at this; cases this
theorem klt_of_not {a b : ByteArray} (h : klt a b = false) (hne : a ≠ b) : klt b a = true := by
  cases hb : klt b a
  · exact absurd (klt_total h hb) hne
  · rfl
/-- not above, and below: below. -/
theorem klt_of_ge_lt {a b c : ByteArray} (h : klt b a = false) (k : klt b c = true) : klt a c = true := by
  cases hab : klt a b
  · rw [klt_total hab h]; exact k
  · exact klt_trans hab k
theorem klt_of_lt_ge {a b c : ByteArray} (h : klt a b = true) (k : klt c b = false) : klt a c = true := by
  cases hbc : klt b c
  · rw [← klt_total hbc k]; exact h
  · exact klt_trans h hbc
theorem beq_toList (a b : ByteArray) : (a.toList == b.toList) = decide (a = b) := by
  by_cases h : a = b
  · subst h; simp
  · simp only [h, decide_false, beq_eq_false_iff_ne]
    exact fun e => h (toList_inj e)
/-- Go's a > b. -/
theorem kgt_eq (a b : ByteArray) : (!(Op.bytesLess a.toList b.toList || a.toList == b.toList)) = klt b a := by
  cases h : klt b a
  · cases h' : klt a b
    · rw [klt_total h h']; simp
    · show (!(klt a b || _)) = false; rw [h']; rfl
  · have h1 := klt_asymm h
    have h2 : a ≠ b := by rintro rfl; rw [klt_irrefl] at h; cases h
    show (!(klt a b || _)) = true
    rw [h1, beq_toList]; simp [h2]

/-- A key and its value. -/
abbrev Ent := ByteArray × Val
def Sorted (es : List Ent) : Prop := es.Pairwise fun a b => klt a.1 b.1 = true

/-- The list in which a key has a value. -/
def insE : List Ent → ByteArray → Val → List Ent
  | [], k, v => [(k, v)]
  | e :: es, k, v => if klt e.1 k then e :: insE es k v else if e.1 = k then (k, v) :: es else (k, v) :: e :: es
/-- The list without a key. -/
def delE : List Ent → ByteArray → List Ent
  | [], _ => []
  | e :: es, k => if klt e.1 k then e :: delE es k else if e.1 = k then es else e :: es
/-- A key's value. -/
def getE : List Ent → ByteArray → Option Val
  | [], _ => none
  | e :: es, k => if e.1 = k then some e.2 else getE es k

theorem insE_app {A : List Ent} {k : ByteArray} (h : ∀ e ∈ A, klt e.1 k = true) (B : List Ent) (v : Val) : insE (A ++ B) k v = A ++ insE B k v := by
  induction A with
  | nil => rfl
  | cons a A ih =>
    have ha := h a (List.mem_cons_self ..)
    simp only [List.cons_append, insE, ha, if_true]
    rw [ih fun e he => h e (List.mem_cons_of_mem _ he)]
theorem insE_stop {C : List Ent} {k : ByteArray} (h : ∀ e ∈ C, klt k e.1 = true) (v : Val) : ∀ B : List Ent, insE (B ++ C) k v = insE B k v ++ C
  | [] => by
    cases C with
    | nil => rfl
    | cons c C =>
      have hc := h c (List.mem_cons_self ..)
      have h1 := klt_asymm hc
      have h2 : c.1 ≠ k := by rintro rfl; rw [klt_irrefl] at hc; cases hc
      simp [insE, h1, h2]
  | b :: B => by
    simp only [List.cons_append, insE]
    split
    · rw [insE_stop h v B, List.cons_append]
    · split <;> rfl
theorem insE_at {B : List Ent} {k : ByteArray} (h : ∀ e ∈ B, klt e.1 k = false) (v : Val) : insE B k v = (k, v) :: (if B.head?.map Prod.fst = some k then B.tail else B) := by
  cases B with
  | nil => rfl
  | cons b B =>
    have hb := h b (List.mem_cons_self ..)
    simp only [insE, hb, Bool.false_eq_true, if_false, List.head?_cons, Option.map_some, Option.some.injEq, List.tail_cons]
    split <;> rfl
theorem delE_app {A : List Ent} {k : ByteArray} (h : ∀ e ∈ A, klt e.1 k = true) (B : List Ent) : delE (A ++ B) k = A ++ delE B k := by
  induction A with
  | nil => rfl
  | cons a A ih =>
    have ha := h a (List.mem_cons_self ..)
    simp only [List.cons_append, delE, ha, if_true]
    rw [ih fun e he => h e (List.mem_cons_of_mem _ he)]
theorem delE_stop {C : List Ent} {k : ByteArray} (h : ∀ e ∈ C, klt k e.1 = true) : ∀ B : List Ent, delE (B ++ C) k = delE B k ++ C
  | [] => by
    cases C with
    | nil => rfl
    | cons c C =>
      have hc := h c (List.mem_cons_self ..)
      have h1 := klt_asymm hc
      have h2 : c.1 ≠ k := by rintro rfl; rw [klt_irrefl] at hc; cases hc
      simp [delE, h1, h2]
  | b :: B => by
    simp only [List.cons_append, delE]
    split
    · rw [delE_stop h B, List.cons_append]
    · split <;> rfl
theorem delE_at {B : List Ent} {k : ByteArray} (h : ∀ e ∈ B, klt e.1 k = false) : delE B k = if B.head?.map Prod.fst = some k then B.tail else B := by
  cases B with
  | nil => simp [delE]
  | cons b B =>
    have hb := h b (List.mem_cons_self ..)
    simp only [delE, hb, Bool.false_eq_true, if_false, List.head?_cons, Option.map_some, Option.some.injEq, List.tail_cons]
theorem getE_none {B : List Ent} {k : ByteArray} (h : ∀ e ∈ B, e.1 ≠ k) : getE B k = none := by
  induction B with
  | nil => rfl
  | cons b B ih => simp only [getE, h b (List.mem_cons_self ..), if_false]; exact ih fun e he => h e (List.mem_cons_of_mem _ he)
theorem getE_app {A : List Ent} {k : ByteArray} (h : ∀ e ∈ A, klt e.1 k = true) (B : List Ent) : getE (A ++ B) k = getE B k := by
  induction A with
  | nil => rfl
  | cons a A ih =>
    have ha := h a (List.mem_cons_self ..)
    have h2 : a.1 ≠ k := by rintro rfl; rw [klt_irrefl] at ha; cases ha
    simp only [List.cons_append, getE, h2, if_false]
    exact ih fun e he => h e (List.mem_cons_of_mem _ he)
theorem getE_stop {C : List Ent} {k : ByteArray} (h : ∀ e ∈ C, klt k e.1 = true) : ∀ B : List Ent, getE (B ++ C) k = getE B k
  | [] => getE_none fun e he => by rintro rfl; have := h e he; rw [klt_irrefl] at this; cases this
  | b :: B => by simp only [List.cons_append, getE]; rw [getE_stop h B]
theorem mem_insE {es : List Ent} {k : ByteArray} {v : Val} {x : Ent} (h : x ∈ insE es k v) : x = (k, v) ∨ x ∈ es := by
  induction es with
  | nil => simpa [insE] using h
  | cons e es ih =>
    simp only [insE] at h
    split at h
    · rcases List.mem_cons.1 h with h | h
      · exact .inr (by simp [h])
      · rcases ih h with h | h
        · exact .inl h
        · exact .inr (List.mem_cons_of_mem _ h)
    · split at h
      · rcases List.mem_cons.1 h with h | h
        · exact .inl h
        · exact .inr (List.mem_cons_of_mem _ h)
      · rcases List.mem_cons.1 h with h | h
        · exact .inl h
        · exact .inr h
theorem insE_sorted {es : List Ent} (h : Sorted es) (k : ByteArray) (v : Val) : Sorted (insE es k v) := by
  induction es with
  | nil => exact List.pairwise_singleton ..
  | cons e es ih =>
    have h' := List.pairwise_cons.1 h
    simp only [insE]
    split
    · rename_i hlt
      refine List.pairwise_cons.2 ⟨fun x hx => ?_, ih h'.2⟩
      rcases mem_insE hx with rfl | hx
      · exact hlt
      · exact h'.1 x hx
    · rename_i hlt
      have hlt : klt e.1 k = false := by simpa using hlt
      split
      · rename_i he
        subst he
        exact List.pairwise_cons.2 ⟨fun x hx => h'.1 x hx, h'.2⟩
      · rename_i he
        have hk := klt_of_not hlt he
        refine List.pairwise_cons.2 ⟨fun x hx => ?_, h⟩
        rcases List.mem_cons.1 hx with rfl | hx
        · exact hk
        · exact klt_trans hk (h'.1 x hx)
theorem delE_sublist (es : List Ent) (k : ByteArray) : (delE es k).Sublist es := by
  induction es with
  | nil => exact .slnil
  | cons e es ih =>
    simp only [delE]
    split
    · exact ih.cons_cons _
    · split
      · exact List.sublist_cons_self ..
      · exact List.Sublist.refl _
theorem delE_sorted {es : List Ent} (h : Sorted es) (k : ByteArray) : Sorted (delE es k) := List.Pairwise.sublist (delE_sublist es k) h

/-! ### Trees as data -/
/-- A node of height h: its block's number, and its entries or its kids. -/
def PT : Nat → Type
  | 0 => Nat × List Ent
  | h + 1 => Nat × List (PT h)
def addr : (h : Nat) → PT h → Nat
  | 0, t => t.1
  | _ + 1, t => t.1
/-- How many entries, or kids, it has of its own. -/
def size : (h : Nat) → PT h → Nat
  | 0, t => t.2.length
  | _ + 1, t => t.2.length
/-- All entries, from the left. -/
def ents : (h : Nat) → PT h → List Ent
  | 0, t => t.2
  | h + 1, t => t.2.flatMap (ents h)
/-- Is a node below it not full enough? -/
def thin : (h : Nat) → PT h → Bool
  | 0, _ => false
  | h + 1, t => t.2.any fun k => thin h k || decide (size h k < 4)
/-- Sound from this node on downwards (of itself: not too many). -/
def OkT : (h : Nat) → PT h → Prop
  | 0, t => t.2.length ≤ 8
  | h + 1, t => 2 ≤ t.2.length ∧ t.2.length ≤ 8 ∧ ∀ k ∈ t.2, OkT h k ∧ 4 ≤ size h k
def firstK (es : List Ent) : ByteArray := (es.head?.map Prod.fst).getD ByteArray.empty
def lastK (es : List Ent) : ByteArray := (es.getLast?.map Prod.fst).getD ByteArray.empty
theorem thin_ok : ∀ (h : Nat) (t : PT h), OkT h t → thin h t = false
  | 0, _, _ => rfl
  | h + 1, t, ok => by
    simp only [thin, List.any_eq_false]
    intro k hk
    have := ok.2.2 k hk
    simp [thin_ok h k this.1]; omega
theorem ents_pos : ∀ (h : Nat) (t : PT h), OkT h t → 1 ≤ size h t → 0 < (ents h t).length
  | 0, _, _, hs => hs
  | h + 1, t, ok, hs => by
    obtain ⟨a, ks⟩ := t
    cases ks with
    | nil => simp [size] at hs
    | cons k ks =>
      have := ok.2.2 k (List.mem_cons_self ..)
      have := ents_pos h k this.1 (by omega)
      simp only [ents, List.flatMap_cons, List.length_append]; omega
/-- A sound tree is no higher than it has entries. -/
theorem height_lt : ∀ (h : Nat) (t : PT h), OkT h t → 1 ≤ size h t → h < (ents h t).length
  | 0, _, _, hs => hs
  | h + 1, t, ok, hs => by
    obtain ⟨a, ks⟩ := t
    match ks, ok with
    | [], ok => exact absurd ok.1 (by simp)
    | [k], ok => exact absurd ok.1 (by simp)
    | k :: k' :: ks, ok =>
      have h1 := ok.2.2 k (List.mem_cons_self ..)
      have h2 := ok.2.2 k' (List.mem_cons_of_mem _ (List.mem_cons_self ..))
      have h1 := height_lt h k h1.1 (by omega)
      have h2 := ents_pos h k' h2.1 (by omega)
      simp only [ents, List.flatMap_cons, List.length_append]; omega
end Go.Proofs.Ytpapoalgocmlaaa
