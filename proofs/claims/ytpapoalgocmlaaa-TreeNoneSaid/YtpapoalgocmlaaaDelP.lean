/- What becomes of a tree without a key: the plain law. No program in sight. -/
import Derived.Test.YtpapoalgocmlaaaWithP
namespace Go.Proofs.Ytpapoalgocmlaaa
open Go.RowKit
set_option linter.unusedVariables false

/-- Two neighbours, one of which has too few: the other one's nearest goes over, or both become one. -/
def pairL {α : Type} (l r : List α) : List (List α) :=
  if 4 < l.length then [l.take (l.length - 1), l.drop (l.length - 1) ++ r] else if 4 < r.length then [l ++ r.take 1, r.drop 1] else [l ++ r]
theorem pairL_flat {α : Type} (l r : List α) : (pairL l r).flatten = l ++ r := by
  unfold pairL
  split
  · simp [← List.append_assoc]
  · split
    · simp only [List.flatten_cons, List.flatten_nil, List.append_nil, List.append_assoc, List.take_append_drop]
    · simp
theorem pairL_len {α : Type} (l r : List α) : (pairL l r).length = 1 ∨ (pairL l r).length = 2 := by
  unfold pairL
  split
  · simp
  · split <;> simp
theorem pairL_ok {α : Type} {l r : List α} (h : (l.length = 3 ∧ 4 ≤ r.length ∧ r.length ≤ 8) ∨ (4 ≤ l.length ∧ l.length ≤ 8 ∧ r.length = 3)) : ∀ x ∈ pairL l r, 4 ≤ x.length ∧ x.length ≤ 8 := by
  unfold pairL
  intro x hx
  split at hx
  · simp only [List.mem_cons, List.not_mem_nil, or_false] at hx
    rcases hx with rfl | rfl
    · rw [List.length_take]; omega
    · rw [List.length_append, List.length_drop]; omega
  · split at hx
    · simp only [List.mem_cons, List.not_mem_nil, or_false] at hx
      rcases hx with rfl | rfl
      · rw [List.length_append, List.length_take]; omega
      · rw [List.length_drop]; omega
    · simp only [List.mem_cons, List.not_mem_nil, or_false] at hx
      subst hx
      rw [List.length_append]; omega
theorem pairL_mem {α : Type} {l r : List α} {x : List α} (hx : x ∈ pairL l r) {a : α} (ha : a ∈ x) : a ∈ l ∨ a ∈ r := by
  have : a ∈ (pairL l r).flatten := List.mem_flatten.2 ⟨x, hx, ha⟩
  rw [pairL_flat] at this
  exact List.mem_append.1 this

def PairR (B : Nat) : (h : Nat) → PT h → PT h → List (PT h) → Prop
  | 0, l, r, ts => ts.map Prod.snd = pairL l.2 r.2 ∧ ∀ u ∈ ts, B ≤ u.1
  | _ + 1, l, r, ts => ts.map Prod.snd = pairL l.2 r.2 ∧ ∀ u ∈ ts, B ≤ u.1
theorem PairR.mono {A B : Nat} (hAB : A ≤ B) : ∀ {h : Nat} {l r : PT h} {ts : List (PT h)}, PairR B h l r ts → PairR A h l r ts
  | 0, _, _, _, ⟨h1, h2⟩ => ⟨h1, fun u hu => Nat.le_trans hAB (h2 u hu)⟩
  | _ + 1, _, _, _, ⟨h1, h2⟩ => ⟨h1, fun u hu => Nat.le_trans hAB (h2 u hu)⟩
theorem PairR.ents {B : Nat} : ∀ {h : Nat} {l r : PT h} {ts : List (PT h)}, PairR B h l r ts → ts.flatMap (Proofs.Ytpapoalgocmlaaa.ents h) = ents h l ++ ents h r
  | 0, l, r, ts, ⟨h1, _⟩ => by rw [flat_snd0, h1, pairL_flat]; rfl
  | h + 1, l, r, ts, ⟨h1, _⟩ => by
    rw [flat_snd, h1, pairL_flat]
    show (l.2 ++ r.2).flatMap _ = _
    rw [List.flatMap_append]; rfl
theorem map_len {α β : Type} {ts : List (β × α)} {L : List α} (h : ts.map Prod.snd = L) (hL : L.length = 1 ∨ L.length = 2) : ts.length = 1 ∨ ts.length = 2 := by
  subst h
  rwa [List.length_map] at hL
theorem PairR.len {B : Nat} : ∀ {h : Nat} {l r : PT h} {ts : List (PT h)}, PairR B h l r ts → ts.length = 1 ∨ ts.length = 2
  | 0, l, r, ts, ⟨h1, _⟩ => map_len h1 (pairL_len (α := Ent) _ _)
  | n + 1, l, r, ts, ⟨h1, _⟩ => map_len h1 (pairL_len (α := PT n) _ _)
theorem PairR.ok {B : Nat} : ∀ {h : Nat} {l r : PT h} {ts : List (PT h)}, PairR B h l r ts → OkT h l → OkT h r → (size h l = 3 ∧ 4 ≤ size h r) ∨ (4 ≤ size h l ∧ size h r = 3) → ∀ u ∈ ts, OkT h u ∧ 4 ≤ size h u
  | 0, l, r, ts, ⟨h1, _⟩, hl, hr, hs, u, hu => by
    have hm : u.2 ∈ pairL l.2 r.2 := by rw [← h1]; exact List.mem_map_of_mem hu
    have hl : l.2.length ≤ 8 := hl
    have hr : r.2.length ≤ 8 := hr
    have hs : (l.2.length = 3 ∧ 4 ≤ r.2.length) ∨ (4 ≤ l.2.length ∧ r.2.length = 3) := hs
    have := pairL_ok (by omega) _ hm
    exact ⟨this.2, this.1⟩
  | h + 1, l, r, ts, ⟨h1, _⟩, hl, hr, hs, u, hu => by
    have hm : u.2 ∈ pairL l.2 r.2 := by rw [← h1]; exact List.mem_map_of_mem hu
    have l8 : l.2.length ≤ 8 := hl.2.1
    have r8 : r.2.length ≤ 8 := hr.2.1
    have hs : (l.2.length = 3 ∧ 4 ≤ r.2.length) ∨ (4 ≤ l.2.length ∧ r.2.length = 3) := hs
    have := pairL_ok (by omega) _ hm
    refine ⟨⟨by omega, this.2, fun x hx => ?_⟩, this.1⟩
    rcases pairL_mem hm hx with hx | hx
    · exact hl.2.2 x hx
    · exact hr.2.2 x hx

/-- What mend makes of kids, the i-th of which has too few. -/
def Mend (B h : Nat) (ks : List (PT h)) (i : Nat) (ks' : List (PT h)) : Prop :=
  ∃ l r ts, ks[i - 1]? = some l ∧ ks[i - 1 + 1]? = some r ∧ PairR B h l r ts ∧ ks' = ks.take (i - 1) ++ ts ++ ks.drop (i - 1 + 2)
def DelK (B : Nat) (k : ByteArray) (h : Nat) (R : PT h → PT h → Prop) (ks ks' : List (PT h)) : Prop :=
  ∃ kid kid', ks[whichK h ks k]? = some kid ∧ R kid kid' ∧
    ((4 ≤ size h kid' ∧ ks' = ks.set (whichK h ks k) kid') ∨ (size h kid' < 4 ∧ Mend B h (ks.set (whichK h ks k) kid') (whichK h ks k) ks'))
/-- What becomes of a node that has the key, without it, and has enough left. -/
def DelR (B : Nat) (k : ByteArray) : (h : Nat) → PT h → PT h → Prop
  | 0, t, u => u.2 = delE t.2 k ∧ B ≤ u.1
  | h + 1, t, u => DelK B k h (DelR B k h) t.2 u.2 ∧ B ≤ u.1
theorem Mend.mono {A B : Nat} (hAB : A ≤ B) {h : Nat} {ks ks' : List (PT h)} {i : Nat} (hm : Mend B h ks i ks') : Mend A h ks i ks' := by
  obtain ⟨l, r, ts, h1, h2, h3, h4⟩ := hm
  exact ⟨l, r, ts, h1, h2, h3.mono hAB, h4⟩
theorem DelK.mono {A B : Nat} (hAB : A ≤ B) {k : ByteArray} {h : Nat} {R S : PT h → PT h → Prop} (hRS : ∀ x y, R x y → S x y) {ks ks' : List (PT h)} (hd : DelK B k h R ks ks') : DelK A k h S ks ks' := by
  obtain ⟨kid, kid', h1, h2, h3⟩ := hd
  exact ⟨kid, kid', h1, hRS _ _ h2, h3.imp_right fun ⟨a, b⟩ => ⟨a, b.mono hAB⟩⟩
theorem DelR.mono {A B : Nat} (hAB : A ≤ B) {k : ByteArray} : ∀ {h : Nat} {t u : PT h}, DelR B k h t u → DelR A k h t u
  | 0, _, _, ⟨h1, h2⟩ => ⟨h1, Nat.le_trans hAB h2⟩
  | _ + 1, _, _, ⟨h1, h2⟩ => ⟨h1.mono hAB fun _ _ hr => hr.mono hAB, Nat.le_trans hAB h2⟩

theorem set_mid {α : Type} {l : List α} {i : Nat} {x y : α} (h : l[i]? = some x) : l.set i y = l.take i ++ y :: l.drop (i + 1) := by
  rw [List.set_eq_take_append_cons_drop, if_pos (List.getElem?_eq_some_iff.1 h).1]
theorem two_mid {α : Type} {l : List α} {i : Nat} {x y : α} (h : l[i]? = some x) (h' : l[i + 1]? = some y) : l = l.take i ++ x :: y :: l.drop (i + 2) := by
  have e1 := take_mid h
  obtain ⟨hi, rfl⟩ := List.getElem?_eq_some_iff.1 h'
  rw [List.drop_eq_getElem_cons hi] at e1
  exact e1
theorem Mend.ents {B h : Nat} {ks ks' : List (PT h)} {i : Nat} (hm : Mend B h ks i ks') : ks'.flatMap (Proofs.Ytpapoalgocmlaaa.ents h) = ks.flatMap (Proofs.Ytpapoalgocmlaaa.ents h) := by
  obtain ⟨l, r, ts, h1, h2, h3, rfl⟩ := hm
  conv => rhs; rw [two_mid h1 h2]
  simp only [List.flatMap_append, List.flatMap_cons, h3.ents, List.append_assoc]
theorem getE_kid {h : Nat} {ks : List (PT h)} {k : ByteArray} {kid : PT h} (hk : ks[whichK h ks k]? = some kid) (hA : ∀ e ∈ (ks.take (whichK h ks k)).flatMap (ents h), klt e.1 k = true) (hC : ∀ e ∈ (ks.drop (whichK h ks k + 1)).flatMap (ents h), klt k e.1 = true) :
    getE (ks.flatMap (ents h)) k = getE (ents h kid) k := by
  conv => lhs; rw [take_mid hk]
  rw [List.flatMap_append, List.flatMap_cons, getE_app hA, getE_stop hC]
theorem DelK.ents {B : Nat} {k : ByteArray} {h : Nat} {R : PT h → PT h → Prop} {ks ks' : List (PT h)} (hd : DelK B k h R ks ks') (hs : Sorted (ks.flatMap (Proofs.Ytpapoalgocmlaaa.ents h))) (hp : ∀ x ∈ ks, 0 < (Proofs.Ytpapoalgocmlaaa.ents h x).length) (hne : 0 < ks.length)
    (hR : ∀ x y, x ∈ ks → R x y → Proofs.Ytpapoalgocmlaaa.ents h y = delE (Proofs.Ytpapoalgocmlaaa.ents h x) k) : ks'.flatMap (Proofs.Ytpapoalgocmlaaa.ents h) = delE (ks.flatMap (Proofs.Ytpapoalgocmlaaa.ents h)) k := by
  obtain ⟨kid, kid', hk, hr, h3⟩ := hd
  obtain ⟨kid2, hk2, hA, hC⟩ := which_split (h := h) (ks := ks) hs hp hne k
  rw [hk] at hk2
  simp only [Option.some.injEq] at hk2
  subst hk2
  have key : (ks.set (whichK h ks k) kid').flatMap (Proofs.Ytpapoalgocmlaaa.ents h) = delE (ks.flatMap (Proofs.Ytpapoalgocmlaaa.ents h)) k := by
    rw [set_mid hk]
    conv => rhs; rw [take_mid hk]
    simp only [List.flatMap_append, List.flatMap_cons]
    rw [hR kid kid' (List.mem_of_getElem? hk) hr, delE_app hA, delE_stop hC]
  rcases h3 with ⟨-, rfl⟩ | ⟨-, hm⟩
  · exact key
  · rw [hm.ents, key]
theorem DelR.ents {B : Nat} {k : ByteArray} : ∀ {h : Nat} {t u : PT h}, DelR B k h t u → OkT h t → Sorted (Proofs.Ytpapoalgocmlaaa.ents h t) → Proofs.Ytpapoalgocmlaaa.ents h u = delE (Proofs.Ytpapoalgocmlaaa.ents h t) k
  | 0, t, u, ⟨h1, _⟩, _, _ => h1
  | h + 1, t, u, ⟨h1, _⟩, ok, hs =>
    h1.ents hs (kids_pos ok) (by have := ok.1; omega) fun x y hx hr => hr.ents (ok.2.2 x hx).1 (kid_sorted hs x hx)

theorem delE_len : ∀ {es : List Ent} {k : ByteArray}, Sorted es → (getE es k).isSome = true → (delE es k).length + 1 = es.length
  | [], _, _, h => by cases h
  | e :: es, k, hs, h => by
    have hs' := List.pairwise_cons.1 hs
    simp only [delE]
    by_cases hk : e.1 = k
    · subst hk
      simp [klt_irrefl]
    · simp only [getE, hk, if_false] at h
      have hlt : klt e.1 k = true := by
        cases hg : getE es k with
        | none => rw [hg] at h; cases h
        | some v =>
          have : ∃ x ∈ es, x.1 = k := by
            clear hs hs' h hk
            induction es with
            | nil => cases hg
            | cons a es ih =>
              simp only [getE] at hg
              by_cases ha : a.1 = k
              · exact ⟨a, List.mem_cons_self .., ha⟩
              · simp only [ha, if_false] at hg
                obtain ⟨x, hx, e⟩ := ih hg
                exact ⟨x, List.mem_cons_of_mem _ hx, e⟩
          obtain ⟨x, hx, rfl⟩ := this
          exact hs'.1 x hx
      simp only [hlt, if_true, List.length_cons]
      rw [delE_len hs'.2 h]
theorem DelK.ok {B : Nat} {k : ByteArray} {h : Nat} {R : PT h → PT h → Prop} {ks ks' : List (PT h)} (hd : DelK B k h R ks ks') (hok : ∀ x ∈ ks, OkT h x ∧ 4 ≤ size h x) (h2 : 2 ≤ ks.length)
    (hR : ∀ x y, x ∈ ks → ks[whichK h ks k]? = some x → R x y → OkT h y ∧ size h x ≤ size h y + 1) : (∀ u ∈ ks', OkT h u ∧ 4 ≤ size h u) ∧ ks'.length ≤ ks.length ∧ ks.length ≤ ks'.length + 1 := by
  obtain ⟨kid, kid', hk, hr, h3⟩ := hd
  have hkm := List.mem_of_getElem? hk
  have hi := (List.getElem?_eq_some_iff.1 hk).1
  obtain ⟨o1, o2⟩ := hR kid kid' hkm hk hr
  have o4 := (hok kid hkm).2
  have hset : ∀ u ∈ ks.set (whichK h ks k) kid', u = kid' ∨ (OkT h u ∧ 4 ≤ size h u) := fun u hu => by
    rcases List.mem_or_eq_of_mem_set hu with hu | hu
    · exact .inr (hok u hu)
    · exact .inl hu
  rcases h3 with ⟨h4, rfl⟩ | ⟨h4, l, r, ts, hl, hr', hp, rfl⟩
  · refine ⟨fun u hu => ?_, by simp, by simp⟩
    rcases hset u hu with rfl | h
    · exact ⟨o1, h4⟩
    · exact h
  · generalize hI : whichK h ks k = i at *
    have hsz : size h kid' = 3 := by omega
    have hget : ∀ j, j ≠ i → ∀ x, (ks.set i kid')[j]? = some x → OkT h x ∧ 4 ≤ size h x := fun j hj x hx => by
      rw [List.getElem?_set_ne (by omega)] at hx
      exact hok x (List.mem_of_getElem? hx)
    have hgi : (ks.set i kid')[i]? = some kid' := by rw [List.getElem?_set_self hi]
    have hpair : OkT h l ∧ OkT h r ∧ ((size h l = 3 ∧ 4 ≤ size h r) ∨ (4 ≤ size h l ∧ size h r = 3)) := by
      by_cases h0 : i = 0
      · subst h0
        rw [hgi] at hl
        simp only [Option.some.injEq] at hl
        subst hl
        have := hget 1 (by omega) r hr'
        exact ⟨o1, this.1, .inl ⟨hsz, this.2⟩⟩
      · rw [show i - 1 + 1 = i from by omega, hgi] at hr'
        simp only [Option.some.injEq] at hr'
        subst hr'
        have := hget (i - 1) (by omega) l hl
        exact ⟨this.1, o1, .inr ⟨this.2, hsz⟩⟩
    have hts := hp.ok hpair.1 hpair.2.1 hpair.2.2
    have hln := hp.len
    refine ⟨fun u hu => ?_, ?_, ?_⟩
    · rcases List.mem_append.1 hu with hu | hu
      · rcases List.mem_append.1 hu with hu | hu
        · obtain ⟨j, hj⟩ := List.getElem?_of_mem hu
          rw [List.getElem?_take] at hj
          split at hj
          · exact hget j (by omega) u hj
          · cases hj
        · exact hts u hu
      · obtain ⟨j, hj⟩ := List.getElem?_of_mem hu
        rw [List.getElem?_drop] at hj
        exact hget _ (by omega) u hj
    · simp only [List.length_append, List.length_take, List.length_drop, List.length_set]; omega
    · simp only [List.length_append, List.length_take, List.length_drop, List.length_set]
      have := (List.getElem?_eq_some_iff.1 hr').1
      rw [List.length_set] at this
      omega
theorem DelR.ok {B : Nat} {k : ByteArray} : ∀ {h : Nat} {t u : PT h}, DelR B k h t u → OkT h t → 4 ≤ size h t → Sorted (Proofs.Ytpapoalgocmlaaa.ents h t) → (getE (Proofs.Ytpapoalgocmlaaa.ents h t) k).isSome = true → OkT h u ∧ size h t ≤ size h u + 1 ∧ size h u ≤ size h t
  | 0, t, u, ⟨h1, _⟩, ok, _, hs, hg => by
    have := delE_len hs hg
    have e : size 0 u = (delE (Proofs.Ytpapoalgocmlaaa.ents 0 t) k).length := by show u.2.length = _; rw [h1]; rfl
    have e2 : (Proofs.Ytpapoalgocmlaaa.ents 0 t).length = size 0 t := rfl
    have ok : size 0 t ≤ 8 := ok
    exact ⟨show size 0 u ≤ 8 by omega, by omega, by omega⟩
  | h + 1, t, u, ⟨h1, _⟩, ok, h4, hs, hg => by
    have h4 : 4 ≤ t.2.length := h4
    obtain ⟨a, b, c⟩ := h1.ok ok.2.2 ok.1 fun x y hx hxk hr => by
      obtain ⟨kid2, hk2, hA, hC⟩ := which_split (h := h) (ks := t.2) hs (kids_pos ok) (by omega) k
      rw [hxk] at hk2
      simp only [Option.some.injEq] at hk2
      subst hk2
      have := hr.ok (ok.2.2 x hx).1 (ok.2.2 x hx).2 (kid_sorted hs x hx) (by rw [← getE_kid hxk hA hC]; exact hg)
      exact ⟨this.1, this.2.1⟩
    have o8 := ok.2.1
    exact ⟨⟨by omega, by omega, a⟩, c, b⟩
/-- Where the key is not, nothing is to be left out. -/
theorem delE_none {es : List Ent} {k : ByteArray} (h : getE es k = none) : delE es k = es := by
  induction es with
  | nil => rfl
  | cons e es ih =>
    simp only [getE] at h
    by_cases hk : e.1 = k
    · simp [hk] at h
    · simp only [hk, if_false] at h
      simp only [delE, hk, if_false]
      split
      · rw [ih h]
      · rfl
end Go.Proofs.Ytpapoalgocmlaaa
