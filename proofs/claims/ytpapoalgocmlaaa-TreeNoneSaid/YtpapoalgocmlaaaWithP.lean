/- What becomes of a tree in which a key has a value: the plain law. No program in sight. -/
import Derived.Test.YtpapoalgocmlaaaWhich
namespace Go.Proofs.Ytpapoalgocmlaaa
open Go.RowKit
set_option linter.unusedVariables false

theorem sorted_app {A B : List Ent} (h : Sorted (A ++ B)) : Sorted A ∧ Sorted B ∧ ∀ a ∈ A, ∀ b ∈ B, klt a.1 b.1 = true := List.pairwise_append.1 h
theorem take_mid {α : Type} {l : List α} {i : Nat} {x : α} (h : l[i]? = some x) : l = l.take i ++ x :: l.drop (i + 1) := by
  obtain ⟨hi, rfl⟩ := List.getElem?_eq_some_iff.1 h
  rw [← List.drop_eq_getElem_cons hi, List.take_append_drop]

theorem firstK_le {es : List Ent} (hs : Sorted es) {e : Ent} (he : e ∈ es) : klt e.1 (firstK es) = false := by
  cases es with
  | nil => cases he
  | cons x xs =>
    rcases List.mem_cons.1 he with rfl | he
    · exact klt_irrefl _
    · exact klt_asymm ((List.pairwise_cons.1 hs).1 e he)

theorem posK_below {h : Nat} {k : ByteArray} : ∀ {ks : List (PT h)} {i : Nat} {t : PT h}, i < posK h ks k → ks[i]? = some t → klt k (firstK (ents h t)) = false
  | [], i, t, _, ht => by simp at ht
  | a :: ks, i, t, hi, ht => by
    unfold posK at hi
    rw [List.takeWhile_cons] at hi
    split at hi
    · rename_i ha
      cases i with
      | zero => simp at ht; subst ht; simpa using ha
      | succ i => exact posK_below (ks := ks) (by unfold posK; simpa using hi) (by simpa using ht)
    · simp at hi
theorem posK_at {h : Nat} {k : ByteArray} : ∀ {ks : List (PT h)} {t : PT h}, ks[posK h ks k]? = some t → klt k (firstK (ents h t)) = true
  | [], t, ht => by simp at ht
  | a :: ks, t, ht => by
    unfold posK at ht
    rw [List.takeWhile_cons] at ht
    split at ht
    · exact posK_at (ks := ks) (by unfold posK; simpa using ht)
    · rename_i ha
      simp at ht; subst ht; simpa using ha

/-- The kid in which a key is, or belongs: what stands on its left is below the key, what stands on its right is above. -/
theorem which_split {h : Nat} {ks : List (PT h)} (hs : Sorted (ks.flatMap (ents h))) (hp : ∀ k ∈ ks, 0 < (ents h k).length) (hne : 0 < ks.length) (k : ByteArray) :
    ∃ kid, ks[whichK h ks k]? = some kid ∧ (∀ e ∈ (ks.take (whichK h ks k)).flatMap (ents h), klt e.1 k = true) ∧ (∀ e ∈ (ks.drop (whichK h ks k + 1)).flatMap (ents h), klt k e.1 = true) := by
  have hle := posK_le h ks k
  have hi : whichK h ks k < ks.length := by unfold whichK; omega
  refine ⟨_, List.getElem?_eq_getElem hi, fun e he => ?_, fun e he => ?_⟩
  · obtain ⟨t, ht, het⟩ := List.mem_flatMap.1 he
    obtain ⟨j, hj⟩ := List.getElem?_of_mem ht
    rw [List.getElem?_take] at hj
    split at hj
    · rename_i hji
      have hlt : whichK h ks k < posK h ks k := by unfold whichK at hji ⊢; omega
      have h1 := posK_below hlt (List.getElem?_eq_getElem hi)
      obtain ⟨b, hbm, eb⟩ := firstK_mem (hp _ (List.mem_of_getElem? (List.getElem?_eq_getElem hi)))
      have h2 := kids_lt hs hji hj (List.getElem?_eq_getElem hi) e het b hbm
      rw [← eb] at h2
      exact klt_of_lt_ge h2 h1
    · cases hj
  · obtain ⟨t, ht, het⟩ := List.mem_flatMap.1 he
    obtain ⟨j, hj⟩ := List.getElem?_of_mem ht
    rw [List.getElem?_drop] at hj
    have hks := kid_sorted hs t (List.mem_of_getElem? hj)
    have hlt : posK h ks k < ks.length := by
      have := (List.getElem?_eq_some_iff.1 hj).1
      unfold whichK at this; omega
    obtain ⟨u, hu⟩ : ∃ u, ks[posK h ks k]? = some u := ⟨_, List.getElem?_eq_getElem hlt⟩
    have hb := posK_at hu
    have hf := firstK_le hks het
    have hge : klt (firstK (ents h t)) (firstK (ents h u)) = false := by
      by_cases hjp : posK h ks k = whichK h ks k + 1 + j
      · rw [hjp, hj] at hu
        simp only [Option.some.injEq] at hu
        rw [hu]; exact klt_irrefl _
      · exact klt_asymm (firsts_rise hs hp (i := posK h ks k) (j := whichK h ks k + 1 + j) (by unfold whichK at *; omega) hu hj)
    exact klt_of_lt_ge hb (by
      cases hc : klt e.1 (firstK (ents h u))
      · rfl
      · exact absurd (klt_of_ge_lt hf hc) (by rw [hge]; simp))

/-! ### What a key's new value makes of a node -/
/-- One node, or two, that come of putting a key's value into a node; those that are made lie from block B on. -/
def WithR (B : Nat) (k : ByteArray) (v : Val) : (h : Nat) → PT h → List (PT h) → Prop
  | 0, t, ts => ts.map Prod.snd = chunk (insE t.2 k v) ∧ ∀ u ∈ ts, B ≤ u.1
  | h + 1, t, ts => ∃ kid rs, t.2[whichK h t.2 k]? = some kid ∧ WithR B k v h kid rs ∧ ts.map Prod.snd = chunk (t.2.take (whichK h t.2 k) ++ rs ++ t.2.drop (whichK h t.2 k + 1)) ∧ ∀ u ∈ ts, B ≤ u.1
theorem WithR.mono {A B : Nat} (hAB : A ≤ B) {k : ByteArray} {v : Val} : ∀ {h : Nat} {t : PT h} {ts : List (PT h)}, WithR B k v h t ts → WithR A k v h t ts
  | 0, _, _, ⟨h1, h2⟩ => ⟨h1, fun u hu => Nat.le_trans hAB (h2 u hu)⟩
  | _ + 1, _, _, ⟨kid, rs, h1, h2, h3, h4⟩ => ⟨kid, rs, h1, h2.mono hAB, h3, fun u hu => Nat.le_trans hAB (h4 u hu)⟩
theorem one_of {α β : Type} {ts : List (β × List α)} {l : List α} (h : ts.map Prod.snd = [l]) : ∃ x, ts = [x] ∧ x.2 = l := by
  match ts, h with
  | [x], h => exact ⟨x, rfl, by simpa using h⟩
theorem two_of {α β : Type} {ts : List (β × List α)} {l m : List α} (h : ts.map Prod.snd = [l, m]) : ∃ x y, ts = [x, y] ∧ x.2 = l ∧ y.2 = m := by
  match ts, h with
  | [x, y], h => exact ⟨x, y, rfl, by simpa using h⟩
theorem one0 {ts : List (PT 0)} {l : List Ent} (h : ts.map Prod.snd = [l]) : ∃ x : PT 0, ts = [x] ∧ x.2 = l := one_of (α := Ent) (β := Nat) h
theorem two0 {ts : List (PT 0)} {l m : List Ent} (h : ts.map Prod.snd = [l, m]) : ∃ x y : PT 0, ts = [x, y] ∧ x.2 = l ∧ y.2 = m := two_of (α := Ent) (β := Nat) h
theorem one1 {n : Nat} {ts : List (PT (n + 1))} {l : List (PT n)} (h : ts.map Prod.snd = [l]) : ∃ x : PT (n + 1), ts = [x] ∧ x.2 = l := one_of (α := PT n) (β := Nat) h
theorem two1 {n : Nat} {ts : List (PT (n + 1))} {l m : List (PT n)} (h : ts.map Prod.snd = [l, m]) : ∃ x y : PT (n + 1), ts = [x, y] ∧ x.2 = l ∧ y.2 = m := two_of (α := PT n) (β := Nat) h
theorem chunk_two {α : Type} (l : List α) : (∃ a, chunk l = [a]) ∨ ∃ a b, chunk l = [a, b] := by
  unfold chunk
  split
  · exact .inl ⟨_, rfl⟩
  · exact .inr ⟨_, _, rfl⟩
theorem WithR.two {B : Nat} {k : ByteArray} {v : Val} {h : Nat} {t : PT h} {ts : List (PT h)} (hw : WithR B k v h t ts) : (∃ a, ts = [a]) ∨ ∃ a b, ts = [a, b] := by
  have : ∀ {α β : Type} (l : List α) {ts : List (β × List α)}, ts.map Prod.snd = chunk l → (∃ a, ts = [a]) ∨ ∃ a b, ts = [a, b] := by
    intro α β l ts h
    rcases chunk_two l with ⟨a, ha⟩ | ⟨a, b, ha⟩ <;> rw [ha] at h
    · match ts, h with
      | [x], _ => exact .inl ⟨x, rfl⟩
    · match ts, h with
      | [x, y], _ => exact .inr ⟨x, y, rfl⟩
  cases h with
  | zero => exact this _ hw.1
  | succ h => obtain ⟨kid, rs, -, -, h3, -⟩ := hw; exact this _ h3
theorem chunk_flat {α : Type} (l : List α) : (chunk l).flatten = l := by
  unfold chunk; split <;> simp
theorem insE_len : ∀ (es : List Ent) (k : ByteArray) (v : Val), (insE es k v).length = es.length ∨ (insE es k v).length = es.length + 1
  | [], _, _ => .inr rfl
  | e :: es, k, v => by
    simp only [insE]
    split
    · rcases insE_len es k v with h | h <;> simp [h]
    · split <;> simp
theorem insE_pos_len (es : List Ent) (k : ByteArray) (v : Val) : 0 < (insE es k v).length := by
  cases es with
  | nil => simp [insE]
  | cons e es => simp only [insE]; split <;> (try split) <;> simp

/-- What an inner node has. -/
theorem ents_succ (h a : Nat) (ks : List (PT h)) : ents (h + 1) (a, ks) = ks.flatMap (ents h) := rfl
theorem flat_snd0 (ts : List (PT 0)) : ts.flatMap (ents 0) = (ts.map Prod.snd).flatten := by
  induction ts with
  | nil => rfl
  | cons t ts ih =>
    rw [List.flatMap_cons, ih]
    rfl
theorem flat_snd (h : Nat) (ts : List (PT (h + 1))) : ts.flatMap (ents (h + 1)) = ((ts.map Prod.snd).flatten : List (PT h)).flatMap (ents h) := by
  induction ts with
  | nil => rfl
  | cons t ts ih =>
    rw [List.flatMap_cons, ih]
    show t.2.flatMap (ents h) ++ _ = (t.2 ++ _).flatMap (ents h)
    rw [List.flatMap_append]
theorem kids_pos {h : Nat} {t : PT (h + 1)} (ok : OkT (h + 1) t) : ∀ k ∈ t.2, 0 < (ents h k).length := fun k hk => ents_pos h k (ok.2.2 k hk).1 (by have := (ok.2.2 k hk).2; omega)
theorem WithR.ents {B : Nat} {k : ByteArray} {v : Val} : ∀ {h : Nat} {t : PT h} {ts : List (PT h)}, WithR B k v h t ts → OkT h t → Sorted (ents h t) → ts.flatMap (Proofs.Ytpapoalgocmlaaa.ents h) = insE (ents h t) k v
  | 0, t, ts, ⟨h1, _⟩, _, _ => by rw [flat_snd0, h1, chunk_flat]; rfl
  | h + 1, t, ts, ⟨kid, rs, hk, hr, h1, _⟩, ok, hs => by
    have hp := kids_pos ok
    obtain ⟨kid', hk', hA, hC⟩ := which_split (h := h) (ks := t.2) hs hp (by have := ok.1; omega) k
    rw [hk] at hk'
    simp only [Option.some.injEq] at hk'
    subst hk'
    have hm := List.mem_of_getElem? hk
    have ih := WithR.ents hr (ok.2.2 kid hm).1 (kid_sorted hs kid hm)
    rw [flat_snd, h1, chunk_flat, List.flatMap_append, List.flatMap_append, ih]
    show _ = insE (t.2.flatMap (Proofs.Ytpapoalgocmlaaa.ents h)) k v
    conv => rhs; rw [take_mid hk]
    rw [List.flatMap_append, List.flatMap_cons, insE_app hA, insE_stop hC, List.append_assoc]

/-- What is sound stays sound: nodes that come of it are full enough, but perhaps a lone one. -/
theorem WithR.ok {B : Nat} {k : ByteArray} {v : Val} : ∀ {h : Nat} {t : PT h} {ts : List (PT h)}, WithR B k v h t ts → OkT h t →
    (∀ u ∈ ts, OkT h u ∧ 1 ≤ size h u ∧ (4 ≤ size h t → 4 ≤ size h u)) ∧ (2 ≤ ts.length → ∀ u ∈ ts, 4 ≤ size h u)
  | 0, t, ts, ⟨h1, _⟩, ok => by
    have hl := insE_len t.2 k v
    have hp := insE_pos_len t.2 k v
    have ok8 : t.2.length ≤ 8 := ok
    unfold chunk at h1
    split at h1
    · rename_i h8
      obtain ⟨x, rfl, hx⟩ := one0 h1
      · refine ⟨fun u hu => ?_, fun h => by simp at h⟩
        simp at hu; subst hu
        refine ⟨show u.2.length ≤ 8 by rw [hx]; exact h8, show 1 ≤ u.2.length by rw [hx]; omega, fun h4 => show 4 ≤ u.2.length by rw [hx]; have h4 : 4 ≤ t.2.length := h4; omega⟩
    · rename_i h8
      obtain ⟨x, y, rfl, hx⟩ := two0 h1
      · have lx : x.2.length = 4 := by rw [hx.1, List.length_take]; omega
        have ly : 4 ≤ y.2.length ∧ y.2.length ≤ 8 := by rw [hx.2, List.length_drop]; omega
        refine ⟨fun u hu => ?_, fun _ u hu => ?_⟩
        · simp at hu
          rcases hu with rfl | rfl
          · exact ⟨show u.2.length ≤ 8 by omega, show 1 ≤ u.2.length by omega, fun _ => show 4 ≤ u.2.length by omega⟩
          · exact ⟨show u.2.length ≤ 8 by omega, show 1 ≤ u.2.length by omega, fun _ => show 4 ≤ u.2.length by omega⟩
        · simp at hu
          rcases hu with rfl | rfl
          · show 4 ≤ u.2.length; omega
          · show 4 ≤ u.2.length; omega
  | h + 1, t, ts, ⟨kid, rs, hk, hr, h1, _⟩, ok => by
    have hm := List.mem_of_getElem? hk
    have hkl := (List.getElem?_eq_some_iff.1 hk).1
    obtain ⟨i1, i2⟩ := WithR.ok hr (ok.2.2 kid hm).1
    have hk4 := (ok.2.2 kid hm).2
    have hall : ∀ u ∈ t.2.take (whichK h t.2 k) ++ rs ++ t.2.drop (whichK h t.2 k + 1), OkT h u ∧ 4 ≤ size h u := fun u hu => by
      rcases List.mem_append.1 hu with hu | hu
      · rcases List.mem_append.1 hu with hu | hu
        · exact ok.2.2 u (List.mem_of_mem_take hu)
        · exact ⟨(i1 u hu).1, (i1 u hu).2.2 hk4⟩
      · exact ok.2.2 u (List.mem_of_mem_drop hu)
    have hlen : (t.2.take (whichK h t.2 k) ++ rs ++ t.2.drop (whichK h t.2 k + 1)).length = t.2.length ∨ (t.2.take (whichK h t.2 k) ++ rs ++ t.2.drop (whichK h t.2 k + 1)).length = t.2.length + 1 := by
      simp only [List.length_append, List.length_take, List.length_drop]
      rcases hr.two with ⟨a, rfl⟩ | ⟨a, b, rfl⟩ <;> simp <;> omega
    obtain ⟨o1, o2, -⟩ := ok
    generalize t.2.take (whichK h t.2 k) ++ rs ++ t.2.drop (whichK h t.2 k + 1) = L at *
    unfold chunk at h1
    split at h1
    · rename_i h8
      obtain ⟨x, rfl, hx⟩ := one1 h1
      · refine ⟨fun u hu => ?_, fun h => by simp at h⟩
        simp at hu; subst hu
        refine ⟨⟨by rw [hx]; omega, by rw [hx]; exact h8, by rw [hx]; exact hall⟩, show 1 ≤ u.2.length by rw [hx]; omega, fun h4 => show 4 ≤ u.2.length by rw [hx]; have h4 : 4 ≤ t.2.length := h4; omega⟩
    · rename_i h8
      obtain ⟨x, y, rfl, hx⟩ := two1 h1
      · have lx : x.2.length = 4 := by rw [hx.1, List.length_take]; omega
        have ly : 4 ≤ y.2.length ∧ y.2.length ≤ 8 := by rw [hx.2, List.length_drop]; omega
        have ax : ∀ u ∈ x.2, OkT h u ∧ 4 ≤ size h u := fun u hu => hall u (List.mem_of_mem_take (hx.1 ▸ hu))
        have ay : ∀ u ∈ y.2, OkT h u ∧ 4 ≤ size h u := fun u hu => hall u (List.mem_of_mem_drop (hx.2 ▸ hu))
        refine ⟨fun u hu => ?_, fun _ u hu => ?_⟩
        · simp at hu
          rcases hu with rfl | rfl
          · exact ⟨⟨by omega, by omega, ax⟩, show 1 ≤ u.2.length by omega, fun _ => show 4 ≤ u.2.length by omega⟩
          · exact ⟨⟨by omega, by omega, ay⟩, show 1 ≤ u.2.length by omega, fun _ => show 4 ≤ u.2.length by omega⟩
        · simp at hu
          rcases hu with rfl | rfl
          · show 4 ≤ u.2.length; omega
          · show 4 ≤ u.2.length; omega

/-- How the leaf's list becomes the new one: by the place of the key. -/
theorem insE_pos {es : List Ent} (hs : Sorted es) (k : ByteArray) (v : Val) :
    insE es k v = es.take (posE es k) ++ (k, v) :: (if (es[posE es k]?).map Prod.fst = some k then es.drop (posE es k + 1) else es.drop (posE es k)) := by
  have e1 : es.take (posE es k) = es.takeWhile fun e => klt e.1 k := (List.prefix_iff_eq_take.1 (List.takeWhile_prefix (l := es) (fun e : Ent => klt e.1 k))).symm
  have hA : ∀ e ∈ es.take (posE es k), klt e.1 k = true := fun e he => by
    rw [e1] at he
    exact List.all_eq_true.1 (List.all_takeWhile (l := es) (p := fun e : Ent => klt e.1 k)) e he
  have hB0 : ∀ e, es[posE es k]? = some e → klt e.1 k = false := by
    intro e he
    have e2 : es.drop (posE es k) = es.dropWhile fun e => klt e.1 k := by
      have h1 := List.take_append_drop (posE es k) es
      rw [e1] at h1
      have h2 := List.takeWhile_append_dropWhile (p := fun e : Ent => klt e.1 k) (l := es)
      exact List.append_cancel_left (h1.trans h2.symm)
    have h0 : (es.drop (posE es k))[0]? = some e := by rw [List.getElem?_drop]; exact he
    rw [e2] at h0
    cases hd : es.dropWhile fun e => klt e.1 k with
    | nil => rw [hd] at h0; simp at h0
    | cons x xs =>
      rw [hd] at h0; simp at h0; subst h0
      have := List.head?_dropWhile_not (fun e : Ent => klt e.1 k) es
      rw [hd] at this
      simpa using this
  have hB : ∀ e ∈ es.drop (posE es k), klt e.1 k = false := fun e he => by
    obtain ⟨j, hj⟩ := List.getElem?_of_mem he
    rw [List.getElem?_drop] at hj
    by_cases h0 : j = 0
    · subst h0; exact hB0 e hj
    · obtain ⟨y, hy⟩ : ∃ y, es[posE es k]? = some y := ⟨_, List.getElem?_eq_getElem (by have := (List.getElem?_eq_some_iff.1 hj).1; omega)⟩
      have h1 := hB0 y hy
      have h2 := sorted_lt hs (i := posE es k) (j := posE es k + j) (by omega) hy hj
      cases hc : klt e.1 k
      · rfl
      · rw [klt_trans h2 hc] at h1; cases h1
  conv => lhs; rw [← List.take_append_drop (posE es k) es]
  rw [insE_app hA, insE_at hB]
  congr 2
  rw [List.head?_drop, List.tail_drop]
end Go.Proofs.Ytpapoalgocmlaaa
