/- What the theorem needs of the texts Mc: no condition of its own. -/
import Derived.Deep.RegionLaw
import Derived.Lib.SliceRun
import Derived.Laws.IdiomStrings
import Derived.WalkArith
import Derived.Test.YtpapoalgocmlaaaGreatPza
import Derived.Test.YtpapoalgocmlaaaGreatPzb
namespace Go.Proofs.YtpapoalgocmlaaaGreat
open Go.RowKit
set_option linter.unusedVariables false
def pairL {α : Type} (l r : List α) : List (List α) :=
  if 4 < l.length then [l.take (l.length - 1), l.drop (l.length - 1) ++ r] else if 4 < r.length then [l ++ r.take 1, r.drop 1] else [l ++ r]
theorem pairL_flat {α : Type} (l r : List α) : (pairL l r).flatten = l ++ r := by
  unfold pairL
  split
  · simp [← List.append_assoc]
  · split
    · simp only [List.flatten_cons, List.flatten_nil, List.append_nil, List.append_assoc, List.take_append_drop]
    · simp
theorem pairL_len {α : Type} (l r : List α) : (pairL l r).length = 1 ∨ (pairL l r).length = 2 := by
  unfold pairL
  split
  · simp
  · split <;> simp
theorem pairL_ok {α : Type} {l r : List α} (h : (l.length = 3 ∧ 4 ≤ r.length ∧ r.length ≤ 8) ∨ (4 ≤ l.length ∧ l.length ≤ 8 ∧ r.length = 3)) : ∀ x ∈ pairL l r, 4 ≤ x.length ∧ x.length ≤ 8 := by
  unfold pairL
  intro x hx
  split at hx
  · simp only [List.mem_cons, List.not_mem_nil, or_false] at hx
    rcases hx with rfl | rfl
    · rw [List.length_take]; omega
    · rw [List.length_append, List.length_drop]; omega
  · split at hx
    · simp only [List.mem_cons, List.not_mem_nil, or_false] at hx
      rcases hx with rfl | rfl
      · rw [List.length_append, List.length_take]; omega
      · rw [List.length_drop]; omega
    · simp only [List.mem_cons, List.not_mem_nil, or_false] at hx
      subst hx
      rw [List.length_append]; omega
theorem pairL_mem {α : Type} {l r : List α} {x : List α} (hx : x ∈ pairL l r) {a : α} (ha : a ∈ x) : a ∈ l ∨ a ∈ r := by
  have : a ∈ (pairL l r).flatten := List.mem_flatten.2 ⟨x, hx, ha⟩
  rw [pairL_flat] at this
  exact List.mem_append.1 this
def PairR (B : Nat) : (h : Nat) → PT h → PT h → List (PT h) → Prop
  | 0, l, r, ts => ts.map Prod.snd = pairL l.2 r.2 ∧ ∀ u ∈ ts, B ≤ u.1
  | _ + 1, l, r, ts => ts.map Prod.snd = pairL l.2 r.2 ∧ ∀ u ∈ ts, B ≤ u.1
theorem PairR.mono {A B : Nat} (hAB : A ≤ B) : ∀ {h : Nat} {l r : PT h} {ts : List (PT h)}, PairR B h l r ts → PairR A h l r ts
  | 0, _, _, _, ⟨h1, h2⟩ => ⟨h1, fun u hu => Nat.le_trans hAB (h2 u hu)⟩
  | _ + 1, _, _, _, ⟨h1, h2⟩ => ⟨h1, fun u hu => Nat.le_trans hAB (h2 u hu)⟩
theorem PairR.ents {B : Nat} : ∀ {h : Nat} {l r : PT h} {ts : List (PT h)}, PairR B h l r ts → ts.flatMap (Proofs.YtpapoalgocmlaaaGreat.ents h) = ents h l ++ ents h r
  | 0, l, r, ts, ⟨h1, _⟩ => by rw [flat_snd0, h1, pairL_flat]; rfl
  | h + 1, l, r, ts, ⟨h1, _⟩ => by
    rw [flat_snd, h1, pairL_flat]
    show (l.2 ++ r.2).flatMap _ = _
    rw [List.flatMap_append]; rfl
theorem map_len {α β : Type} {ts : List (β × α)} {L : List α} (h : ts.map Prod.snd = L) (hL : L.length = 1 ∨ L.length = 2) : ts.length = 1 ∨ ts.length = 2 := by
  subst h
  rwa [List.length_map] at hL
theorem PairR.len {B : Nat} : ∀ {h : Nat} {l r : PT h} {ts : List (PT h)}, PairR B h l r ts → ts.length = 1 ∨ ts.length = 2
  | 0, l, r, ts, ⟨h1, _⟩ => map_len h1 (pairL_len (α := Ent) _ _)
  | n + 1, l, r, ts, ⟨h1, _⟩ => map_len h1 (pairL_len (α := PT n) _ _)
theorem PairR.ok {B : Nat} : ∀ {h : Nat} {l r : PT h} {ts : List (PT h)}, PairR B h l r ts → OkT h l → OkT h r → (size h l = 3 ∧ 4 ≤ size h r) ∨ (4 ≤ size h l ∧ size h r = 3) → ∀ u ∈ ts, OkT h u ∧ 4 ≤ size h u
  | 0, l, r, ts, ⟨h1, _⟩, hl, hr, hs, u, hu => by
    have hm : u.2 ∈ pairL l.2 r.2 := by rw [← h1]; exact List.mem_map_of_mem hu
    have hl : l.2.length ≤ 8 := hl
    have hr : r.2.length ≤ 8 := hr
    have hs : (l.2.length = 3 ∧ 4 ≤ r.2.length) ∨ (4 ≤ l.2.length ∧ r.2.length = 3) := hs
    have := pairL_ok (by omega) _ hm
    exact ⟨this.2, this.1⟩
  | h + 1, l, r, ts, ⟨h1, _⟩, hl, hr, hs, u, hu => by
    have hm : u.2 ∈ pairL l.2 r.2 := by rw [← h1]; exact List.mem_map_of_mem hu
    have l8 : l.2.length ≤ 8 := hl.2.1
    have r8 : r.2.length ≤ 8 := hr.2.1
    have hs : (l.2.length = 3 ∧ 4 ≤ r.2.length) ∨ (4 ≤ l.2.length ∧ r.2.length = 3) := hs
    have := pairL_ok (by omega) _ hm
    refine ⟨⟨by omega, this.2, fun x hx => ?_⟩, this.1⟩
    rcases pairL_mem hm hx with hx | hx
    · exact hl.2.2 x hx
    · exact hr.2.2 x hx
def Mend (B h : Nat) (ks : List (PT h)) (i : Nat) (ks' : List (PT h)) : Prop :=
  ∃ l r ts, ks[i - 1]? = some l ∧ ks[i - 1 + 1]? = some r ∧ PairR B h l r ts ∧ ks' = ks.take (i - 1) ++ ts ++ ks.drop (i - 1 + 2)
def DelK (B : Nat) (k : ByteArray) (h : Nat) (R : PT h → PT h → Prop) (ks ks' : List (PT h)) : Prop :=
  ∃ kid kid', ks[whichK h ks k]? = some kid ∧ R kid kid' ∧
    ((4 ≤ size h kid' ∧ ks' = ks.set (whichK h ks k) kid') ∨ (size h kid' < 4 ∧ Mend B h (ks.set (whichK h ks k) kid') (whichK h ks k) ks'))
def DelR (B : Nat) (k : ByteArray) : (h : Nat) → PT h → PT h → Prop
  | 0, t, u => u.2 = delE t.2 k ∧ B ≤ u.1
  | h + 1, t, u => DelK B k h (DelR B k h) t.2 u.2 ∧ B ≤ u.1
theorem Mend.mono {A B : Nat} (hAB : A ≤ B) {h : Nat} {ks ks' : List (PT h)} {i : Nat} (hm : Mend B h ks i ks') : Mend A h ks i ks' := by
  obtain ⟨l, r, ts, h1, h2, h3, h4⟩ := hm
  exact ⟨l, r, ts, h1, h2, h3.mono hAB, h4⟩
theorem DelK.mono {A B : Nat} (hAB : A ≤ B) {k : ByteArray} {h : Nat} {R S : PT h → PT h → Prop} (hRS : ∀ x y, R x y → S x y) {ks ks' : List (PT h)} (hd : DelK B k h R ks ks') : DelK A k h S ks ks' := by
  obtain ⟨kid, kid', h1, h2, h3⟩ := hd
  exact ⟨kid, kid', h1, hRS _ _ h2, h3.imp_right fun ⟨a, b⟩ => ⟨a, b.mono hAB⟩⟩
theorem DelR.mono {A B : Nat} (hAB : A ≤ B) {k : ByteArray} : ∀ {h : Nat} {t u : PT h}, DelR B k h t u → DelR A k h t u
  | 0, _, _, ⟨h1, h2⟩ => ⟨h1, Nat.le_trans hAB h2⟩
  | _ + 1, _, _, ⟨h1, h2⟩ => ⟨h1.mono hAB fun _ _ hr => hr.mono hAB, Nat.le_trans hAB h2⟩
theorem set_mid {α : Type} {l : List α} {i : Nat} {x y : α} (h : l[i]? = some x) : l.set i y = l.take i ++ y :: l.drop (i + 1) := by
  rw [List.set_eq_take_append_cons_drop, if_pos (List.getElem?_eq_some_iff.1 h).1]
theorem two_mid {α : Type} {l : List α} {i : Nat} {x y : α} (h : l[i]? = some x) (h' : l[i + 1]? = some y) : l = l.take i ++ x :: y :: l.drop (i + 2) := by
  have e1 := take_mid h
  obtain ⟨hi, rfl⟩ := List.getElem?_eq_some_iff.1 h'
  rw [List.drop_eq_getElem_cons hi] at e1
  exact e1
theorem Mend.ents {B h : Nat} {ks ks' : List (PT h)} {i : Nat} (hm : Mend B h ks i ks') : ks'.flatMap (Proofs.YtpapoalgocmlaaaGreat.ents h) = ks.flatMap (Proofs.YtpapoalgocmlaaaGreat.ents h) := by
  obtain ⟨l, r, ts, h1, h2, h3, rfl⟩ := hm
  conv => rhs; rw [two_mid h1 h2]
  simp only [List.flatMap_append, List.flatMap_cons, h3.ents, List.append_assoc]
theorem getE_kid {h : Nat} {ks : List (PT h)} {k : ByteArray} {kid : PT h} (hk : ks[whichK h ks k]? = some kid) (hA : ∀ e ∈ (ks.take (whichK h ks k)).flatMap (ents h), klt e.1 k = true) (hC : ∀ e ∈ (ks.drop (whichK h ks k + 1)).flatMap (ents h), klt k e.1 = true) :
    getE (ks.flatMap (ents h)) k = getE (ents h kid) k := by
  conv => lhs; rw [take_mid hk]
  rw [List.flatMap_append, List.flatMap_cons, getE_app hA, getE_stop hC]
theorem DelK.ents {B : Nat} {k : ByteArray} {h : Nat} {R : PT h → PT h → Prop} {ks ks' : List (PT h)} (hd : DelK B k h R ks ks') (hs : Sorted (ks.flatMap (Proofs.YtpapoalgocmlaaaGreat.ents h))) (hp : ∀ x ∈ ks, 0 < (Proofs.YtpapoalgocmlaaaGreat.ents h x).length) (hne : 0 < ks.length)
    (hR : ∀ x y, x ∈ ks → R x y → Proofs.YtpapoalgocmlaaaGreat.ents h y = delE (Proofs.YtpapoalgocmlaaaGreat.ents h x) k) : ks'.flatMap (Proofs.YtpapoalgocmlaaaGreat.ents h) = delE (ks.flatMap (Proofs.YtpapoalgocmlaaaGreat.ents h)) k := by
  obtain ⟨kid, kid', hk, hr, h3⟩ := hd
  obtain ⟨kid2, hk2, hA, hC⟩ := which_split (h := h) (ks := ks) hs hp hne k
  rw [hk] at hk2
  simp only [Option.some.injEq] at hk2
  subst hk2
  have key : (ks.set (whichK h ks k) kid').flatMap (Proofs.YtpapoalgocmlaaaGreat.ents h) = delE (ks.flatMap (Proofs.YtpapoalgocmlaaaGreat.ents h)) k := by
    rw [set_mid hk]
    conv => rhs; rw [take_mid hk]
    simp only [List.flatMap_append, List.flatMap_cons]
    rw [hR kid kid' (List.mem_of_getElem? hk) hr, delE_app hA, delE_stop hC]
  rcases h3 with ⟨-, rfl⟩ | ⟨-, hm⟩
  · exact key
  · rw [hm.ents, key]
theorem DelR.ents {B : Nat} {k : ByteArray} : ∀ {h : Nat} {t u : PT h}, DelR B k h t u → OkT h t → Sorted (Proofs.YtpapoalgocmlaaaGreat.ents h t) → Proofs.YtpapoalgocmlaaaGreat.ents h u = delE (Proofs.YtpapoalgocmlaaaGreat.ents h t) k
  | 0, t, u, ⟨h1, _⟩, _, _ => h1
  | h + 1, t, u, ⟨h1, _⟩, ok, hs =>
    h1.ents hs (kids_pos ok) (by have := ok.1; omega) fun x y hx hr => hr.ents (ok.2.2 x hx).1 (kid_sorted hs x hx)
theorem delE_len : ∀ {es : List Ent} {k : ByteArray}, Sorted es → (getE es k).isSome = true → (delE es k).length + 1 = es.length
  | [], _, _, h => by cases h
  | e :: es, k, hs, h => by
    have hs' := List.pairwise_cons.1 hs
    simp only [delE]
    by_cases hk : e.1 = k
    · subst hk
      simp [klt_irrefl]
    · simp only [getE, hk, if_false] at h
      have hlt : klt e.1 k = true := by
        cases hg : getE es k with
        | none => rw [hg] at h; cases h
        | some v =>
          have : ∃ x ∈ es, x.1 = k := by
            clear hs hs' h hk
            induction es with
            | nil => cases hg
            | cons a es ih =>
              simp only [getE] at hg
              by_cases ha : a.1 = k
              · exact ⟨a, List.mem_cons_self .., ha⟩
              · simp only [ha, if_false] at hg
                obtain ⟨x, hx, e⟩ := ih hg
                exact ⟨x, List.mem_cons_of_mem _ hx, e⟩
          obtain ⟨x, hx, rfl⟩ := this
          exact hs'.1 x hx
      simp only [hlt, if_true, List.length_cons]
      rw [delE_len hs'.2 h]
theorem DelK.ok {B : Nat} {k : ByteArray} {h : Nat} {R : PT h → PT h → Prop} {ks ks' : List (PT h)} (hd : DelK B k h R ks ks') (hok : ∀ x ∈ ks, OkT h x ∧ 4 ≤ size h x) (h2 : 2 ≤ ks.length)
    (hR : ∀ x y, x ∈ ks → ks[whichK h ks k]? = some x → R x y → OkT h y ∧ size h x ≤ size h y + 1) : (∀ u ∈ ks', OkT h u ∧ 4 ≤ size h u) ∧ ks'.length ≤ ks.length ∧ ks.length ≤ ks'.length + 1 := by
  obtain ⟨kid, kid', hk, hr, h3⟩ := hd
  have hkm := List.mem_of_getElem? hk
  have hi := (List.getElem?_eq_some_iff.1 hk).1
  obtain ⟨o1, o2⟩ := hR kid kid' hkm hk hr
  have o4 := (hok kid hkm).2
  have hset : ∀ u ∈ ks.set (whichK h ks k) kid', u = kid' ∨ (OkT h u ∧ 4 ≤ size h u) := fun u hu => by
    rcases List.mem_or_eq_of_mem_set hu with hu | hu
    · exact .inr (hok u hu)
    · exact .inl hu
  rcases h3 with ⟨h4, rfl⟩ | ⟨h4, l, r, ts, hl, hr', hp, rfl⟩
  · refine ⟨fun u hu => ?_, by simp, by simp⟩
    rcases hset u hu with rfl | h
    · exact ⟨o1, h4⟩
    · exact h
  · generalize hI : whichK h ks k = i at *
    have hsz : size h kid' = 3 := by omega
    have hget : ∀ j, j ≠ i → ∀ x, (ks.set i kid')[j]? = some x → OkT h x ∧ 4 ≤ size h x := fun j hj x hx => by
      rw [List.getElem?_set_ne (by omega)] at hx
      exact hok x (List.mem_of_getElem? hx)
    have hgi : (ks.set i kid')[i]? = some kid' := by rw [List.getElem?_set_self hi]
    have hpair : OkT h l ∧ OkT h r ∧ ((size h l = 3 ∧ 4 ≤ size h r) ∨ (4 ≤ size h l ∧ size h r = 3)) := by
      by_cases h0 : i = 0
      · subst h0
        rw [hgi] at hl
        simp only [Option.some.injEq] at hl
        subst hl
        have := hget 1 (by omega) r hr'
        exact ⟨o1, this.1, .inl ⟨hsz, this.2⟩⟩
      · rw [show i - 1 + 1 = i from by omega, hgi] at hr'
        simp only [Option.some.injEq] at hr'
        subst hr'
        have := hget (i - 1) (by omega) l hl
        exact ⟨this.1, o1, .inr ⟨this.2, hsz⟩⟩
    have hts := hp.ok hpair.1 hpair.2.1 hpair.2.2
    have hln := hp.len
    refine ⟨fun u hu => ?_, ?_, ?_⟩
    · rcases List.mem_append.1 hu with hu | hu
      · rcases List.mem_append.1 hu with hu | hu
        · obtain ⟨j, hj⟩ := List.getElem?_of_mem hu
          rw [List.getElem?_take] at hj
          split at hj
          · exact hget j (by omega) u hj
          · cases hj
        · exact hts u hu
      · obtain ⟨j, hj⟩ := List.getElem?_of_mem hu
        rw [List.getElem?_drop] at hj
        exact hget _ (by omega) u hj
    · simp only [List.length_append, List.length_take, List.length_drop, List.length_set]; omega
    · simp only [List.length_append, List.length_take, List.length_drop, List.length_set]
      have := (List.getElem?_eq_some_iff.1 hr').1
      rw [List.length_set] at this
      omega
theorem DelR.ok {B : Nat} {k : ByteArray} : ∀ {h : Nat} {t u : PT h}, DelR B k h t u → OkT h t → 4 ≤ size h t → Sorted (Proofs.YtpapoalgocmlaaaGreat.ents h t) → (getE (Proofs.YtpapoalgocmlaaaGreat.ents h t) k).isSome = true → OkT h u ∧ size h t ≤ size h u + 1 ∧ size h u ≤ size h t
  | 0, t, u, ⟨h1, _⟩, ok, _, hs, hg => by
    have := delE_len hs hg
    have e : size 0 u = (delE (Proofs.YtpapoalgocmlaaaGreat.ents 0 t) k).length := by show u.2.length = _; rw [h1]; rfl
    have e2 : (Proofs.YtpapoalgocmlaaaGreat.ents 0 t).length = size 0 t := rfl
    have ok : size 0 t ≤ 8 := ok
    exact ⟨show size 0 u ≤ 8 by omega, by omega, by omega⟩
  | h + 1, t, u, ⟨h1, _⟩, ok, h4, hs, hg => by
    have h4 : 4 ≤ t.2.length := h4
    obtain ⟨a, b, c⟩ := h1.ok ok.2.2 ok.1 fun x y hx hxk hr => by
      obtain ⟨kid2, hk2, hA, hC⟩ := which_split (h := h) (ks := t.2) hs (kids_pos ok) (by omega) k
      rw [hxk] at hk2
      simp only [Option.some.injEq] at hk2
      subst hk2
      have := hr.ok (ok.2.2 x hx).1 (ok.2.2 x hx).2 (kid_sorted hs x hx) (by rw [← getE_kid hxk hA hC]; exact hg)
      exact ⟨this.1, this.2.1⟩
    have o8 := ok.2.1
    exact ⟨⟨by omega, by omega, a⟩, c, b⟩
theorem delE_none {es : List Ent} {k : ByteArray} (h : getE es k = none) : delE es k = es := by
  induction es with
  | nil => rfl
  | cons e es ih =>
    simp only [getE] at h
    by_cases hk : e.1 = k
    · simp [hk] at h
    · simp only [hk, if_false] at h
      simp only [delE, hk, if_false]
      split
      · rw [ih h]
      · rfl
end Go.Proofs.YtpapoalgocmlaaaGreat
namespace Go.Proofs.YtpapoalgocmlaaaGreat
open Go.RowKit
set_option linter.unusedVariables false
def numI (a b : Int) : Int := if a < b then -1 else if b < a then 1 else 0
def boolI (a b : Bool) : Int := if a = b then 0 else if b then -1 else 1
def textI (a b : ByteArray) : Int := if klt a b then -1 else if klt b a then 1 else 0
mutual
def cmpV : Val → Val → Int
  | .mk k b i t l ok ov, y =>
    if k ≠ y.kind then numI k y.kind else if k = 2 then boolI b y.b else if k = 3 then numI i y.i else if k = 4 then textI t y.t else if k = 5 then cmpL l y.l else if k = 6 then cmpM ov ok y.ok y.ov else 0
def cmpL : List Val → List Val → Int
  | [], m => if m.length = 0 then 0 else -1
  | _ :: _, [] => 1
  | a :: l, b :: m => if cmpV a b ≠ 0 then cmpV a b else cmpL l m
def cmpM : List Val → List ByteArray → List ByteArray → List Val → Int
  | [], _, _, m => if m.length = 0 then 0 else -1
  | _ :: _, _, _, [] => 1
  | a :: l, ka, kb, b :: m => if textI (ka.headD ByteArray.empty) (kb.headD ByteArray.empty) ≠ 0 then textI (ka.headD ByteArray.empty) (kb.headD ByteArray.empty) else if cmpV a b ≠ 0 then cmpV a b else cmpM l ka.tail kb.tail m
end
theorem numI_self (a : Int) : numI a a = 0 := by simp [numI]
theorem numI_zero {a b : Int} : numI a b = 0 ↔ a = b := by unfold numI; split <;> (try split) <;> omega
theorem numI_swap {a b : Int} : numI a b = 0 ↔ numI b a = 0 := by rw [numI_zero, numI_zero]; exact eq_comm
theorem boolI_zero {a b : Bool} : boolI a b = 0 ↔ a = b := by cases a <;> cases b <;> simp [boolI]
theorem textI_self (a : ByteArray) : textI a a = 0 := by simp [textI, klt_irrefl]
theorem textI_zero {a b : ByteArray} : textI a b = 0 ↔ a = b := by
  constructor
  · intro h
    unfold textI at h
    split at h
    · cases h
    · split at h
      · cases h
      · rename_i h1 h2
        exact klt_total (by simpa using h1) (by simpa using h2)
  · rintro rfl; exact textI_self _
theorem cmpV_self (m : Nat) : ∀ d : Val, SizeOf.sizeOf d ≤ m → cmpV d d = 0 := by
  induction m with
  | zero => intro d hd; have := Val.sz_pos d; omega
  | succ m ih =>
    intro d hd
    obtain ⟨k, b, i, t, l, ok, ov⟩ := d
    have hl : ∀ l' : List Val, SizeOf.sizeOf l' ≤ m → cmpL l' l' = 0 := by
      intro l'
      induction l' with
      | nil => intro _; simp [cmpL]
      | cons a l' ihl =>
        intro hs
        simp only [List.cons.sizeOf_spec] at hs
        simp only [cmpL]
        rw [ih a (by omega)]
        simpa using ihl (by omega)
    have ho : ∀ (l' : List Val) (kk : List ByteArray), SizeOf.sizeOf l' ≤ m → cmpM l' kk kk l' = 0 := by
      intro l'
      induction l' with
      | nil => intro kk _; simp [cmpM]
      | cons a l' ihl =>
        intro kk hs
        simp only [List.cons.sizeOf_spec] at hs
        simp only [cmpM]
        rw [ih a (by omega), textI_self]
        simpa using ihl kk.tail (by omega)
    simp only [Val.mk.sizeOf_spec] at hd
    simp only [cmpV, Val.kind, Val.b, Val.i, Val.t, Val.l, Val.ok, Val.ov]
    simp only [ne_eq, not_true_eq_false, if_false, numI_self, textI_self, hl l (by omega), ho ov ok (by omega), boolI, if_true]
    simp
theorem cmpV_refl (d : Val) : cmpV d d = 0 := cmpV_self _ d (Nat.le_refl _)
def sameE : List Ent → List Ent → Bool
  | [], [] => true
  | a :: l, b :: m => decide (a.1 = b.1) && decide (cmpV a.2 b.2 = 0) && sameE l m
  | _, _ => false
theorem sameE_refl : ∀ l : List Ent, sameE l l = true
  | [] => rfl
  | a :: l => by simp [sameE, cmpV_refl, sameE_refl l]
theorem sameE_len : ∀ {l m : List Ent}, sameE l m = true → l.length = m.length
  | [], [], _ => rfl
  | a :: l, b :: m, h => by
    simp only [sameE, Bool.and_eq_true] at h
    simp [sameE_len h.2]
  | [], _ :: _, h => by cases h
  | _ :: _, [], h => by cases h
end Go.Proofs.YtpapoalgocmlaaaGreat
namespace Go.Proofs.YtpapoalgocmlaaaGreat
open Go.RowKit
set_option linter.unusedVariables false
set_option linter.unusedSimpArgs false
section
variable {P : Program} (w : World)
theorem stepE_append_run {ops : Array Oper} {o : Oper} {a : Act} {K : Act → World → Prop} {Q : Exit → Act → World → Prop} {E : Prop} (hgd : o.guard = none) (d s : Operand) (t t' : TypeId)
    (ho : o.op = .call { callee := .builtin .append, args := #[d, s], argTypes := #[t, t'] }) (v u : Value) (hd : a.eval d = v) (hs : a.eval s = u) {v' : Value} {w' : World}
    (hr : (Builtin.append_ #[t, t'] o.type #[v, u]).run P w = .ok v' w') (h : K (a.put o.dst v') w') :
    if Region.wanted o (yielded ops a.tmps) = true then Oper.wp P o a w K Q else E := by
  have hw : Region.wanted o (yielded ops a.tmps) = true := by simp [Region.wanted, hgd]
  rw [if_pos hw]
  unfold Oper.wp execOp
  simp only [ho, resolve, invoke, builtin, Sem.run_bind, Sem.run_pure, Result.andThen_ok, List.map_toArray, List.map_cons, List.map_nil, hd, hs, hr]
  exact h
end
def DelPostE (base : Nat) (s : Sl) (n i : Nat) (xs : List Value) (w : World) (e : Ending) (w' : World) : Prop :=
  e = .returned (.slice s.a (n - 1) s.c) ∧ w'.ownsRow base 54 7 (.slice s.a (n - 1) s.c) (n - 1) (xs.take (i * 7) ++ xs.drop ((i + 1) * 7)) ∧ Wr w w' s.row
theorem zeroE (w : World) : (zeroValue 54).run Tryz.prog w = .ok (.agg #[.string ByteArray.empty, .int .i64 0, .bool false, .int .i64 0, .string ByteArray.empty, .slice none 0 0, .slice none 0 0]) w := by kernel_rfl
set_option maxRecDepth 100000 in
set_option maxHeartbeats 1000000 in
theorem delE_any {w : World} {base n i : Nat} {s : Sl} {xs : List Value} (hown : w.ownsRow base 54 7 (.slice s.a n s.c) n xs) (hn : n ≤ 1000) (hin : i < n) (h1 : ∀ u ∈ xs, u.oneCell' = true) :
    Calls Tryz.prog 81 #[.slice s.a n s.c, .int .i64 i, .int .i64 ((i : Int) + 1)] w (DelPostE base s n i xs w) := by
  obtain ⟨i0, hi, hz0, hz1, hz2⟩ := info_parts Tryz.infoEntry
  rcases hown.2 with ⟨hs, h0⟩ | ⟨g, cap, cur, hs, hbg, hg, hnc, hcm, hcs, htake⟩
  · omega
  simp only [Value.slice.injEq] at hs
  obtain ⟨ha, -, hc⟩ := hs
  have hs' : s = ⟨some ⟨g, 0, none⟩, cap⟩ := by cases s; simp_all
  have hxl := hown.1
  subst hs'
  clear hown ha hc
  have hic : i ≤ cap := by omega
  have hin' : (i : Int) < (n : Int) := by omega
  have hin1 : (i : Int) + 1 ≤ (n : Int) := by omega
  have hi0 : (0 : Int) ≤ (i : Int) := by omega
  have hib : (0 : Int) ≤ (i : Int) + 1 := by omega
  have hii : (i : Int) ≤ (i : Int) + 1 := by omega
  have hne : ((i : Int) == (i : Int) + 1) = false := beq_eq_false_iff_ne.2 (by omega)
  have hcm' : (cap : Int) ≤ 9223372036854775807 := by unfold maxLen at hcm; omega
  have hncI : (n : Int) ≤ (cap : Int) := by omega
  have htn : ((i : Int) + 1).toNat = i + 1 := by omega
  obtain ⟨news, hnews⟩ : ∃ news, news = xs.drop ((i + 1) * 7) := ⟨_, rfl⟩
  have hnl : news.length = (n - (i + 1)) * 7 := by rw [hnews, List.length_drop, hxl, ← Nat.sub_mul]
  have hn1 : ∀ u ∈ news, u.oneCell' = true := fun u hu => h1 u (List.mem_of_mem_drop (hnews ▸ hu))
  obtain ⟨A, hA, hsrc⟩ : ∃ A : Addr, (if cap = i + 1 then some (⟨g, 0, none⟩ : Addr) else some ⟨g, (i + 1) * 7, none⟩) = some A ∧ (∀ j u, news[j]? = some u → w.drew.cell? (A.add j) = some u) := by
    by_cases h : cap = i + 1
    · refine ⟨⟨g, 0, none⟩, by simp [h], fun t u hu => ?_⟩
      have h0 : news.length = 0 := by rw [hnl, show n - (i + 1) = 0 from by omega, Nat.zero_mul]
      rw [List.length_eq_zero_iff.1 h0] at hu
      simp at hu
    · refine ⟨⟨g, (i + 1) * 7, none⟩, by simp [h], fun j u hu => ?_⟩
      rw [add_at, World.cell?_drew, cell_of_row w g _ cur 54 (0, 0) hg]
      rw [hnews, List.getElem?_drop, ← htake, List.getElem?_take] at hu
      split at hu
      · simpa [Nat.add_comm, Nat.add_left_comm, Nat.add_assoc, Nat.mul_comm] using hu
      · cases hu
  obtain ⟨A1, hA1⟩ : ∃ A1, A1 = (cur.toList.take (i * 7) ++ news ++ cur.toList.drop (i * 7 + news.length)).toArray := ⟨_, rfl⟩
  have hfit : i * 7 + news.length ≤ cur.size := by rw [hnl, hcs]; omega
  have hs1 : A1.size = cur.size := by rw [hA1]; simp; omega
  obtain ⟨W1, hW1⟩ : ∃ W1, W1 = w.drew.setRow g A1 := ⟨_, rfl⟩
  have hap : ∀ ty, (Builtin.append_ #[31, 31] ty #[.slice (some ⟨g, 0, none⟩) i cap, .slice (some A) (n - (i + 1)) (cap - (i + 1))]).run Tryz.prog w.drew = .ok (.slice (some ⟨g, 0, none⟩) (n - 1) cap) W1 := fun ty => by
    have h := run_append_room (P := Tryz.prog) w.drew 31 ty 54 i0 Tryz.underlying31 hi g i cap cur hg A (n - (i + 1)) (cap - (i + 1)) news (by rw [hz1]; exact hnl) hsrc hn1 (by omega) (by rw [hz1]; exact hfit)
    rw [hz1] at h
    rw [hW1, hA1, h, show i + (n - (i + 1)) = n - 1 from by omega]
  have hg1 : W1.heap[g]? = some (.cells A1 54 (0, 0)) := by rw [hW1]; exact setRow_heap w.drew g cur A1 54 (0, 0) hg
  obtain ⟨Z, hZ⟩ : ∃ Z, Z = ((.agg #[.string ByteArray.empty, .int .i64 0, .bool false, .int .i64 0, .string ByteArray.empty, .slice none 0 0, .slice none 0 0]) : Value) := ⟨_, rfl⟩
  have hzv : ∀ w, (zeroValue 54).run Tryz.prog w = .ok Z w := fun w => by rw [hZ]; exact zeroE w
  obtain ⟨zs, hzs⟩ : ∃ zs, zs = (Builtin.zeroCells Z.cells 1).toList := ⟨_, rfl⟩
  have hzl : zs.length = 7 := by rw [hzs, Array.length_toList, size_zeroCells, hZ]; rfl
  have hz1c : ∀ u ∈ zs, u.oneCell' = true := by
    have : zs.all (·.oneCell') = true := by rw [hzs, hZ]; kernel_rfl
    exact fun u hu => List.all_eq_true.1 this u hu
  obtain ⟨A2, hA2⟩ : ∃ A2, A2 = (A1.toList.take ((n - 1) * 7) ++ zs ++ A1.toList.drop ((n - 1) * 7 + zs.length)).toArray := ⟨_, rfl⟩
  obtain ⟨W2, hW2⟩ : ∃ W2, W2 = W1.setRow g A2 := ⟨_, rfl⟩
  have hst := run_storeCells_at Tryz.prog g ((n - 1) * 7) 54 zs 0 A1 W1 hg1 (by rw [hzl, hs1, hcs]; omega) hz1c
  have hcl : ∀ ty c, (Builtin.clear_ #[31] ty #[.slice (some ⟨g, (n - 1) * 7, none⟩) 1 c]).run Tryz.prog W1 = .ok (.tuple #[]) W2 := fun ty c => by
    simp only [Nat.add_zero] at hst
    rw [← hA2, ← hW2] at hst
    rw [hzs] at hst
    simp [Builtin.clear_, run_underlying Tryz.underlying31, hzv, hst]
  have hg2 : W2.heap[g]? = some (.cells A2 54 (0, 0)) := by rw [hW2]; exact setRow_heap W1 g A1 A2 54 (0, 0) hg1
  have hwr : Wr w W2 (some g) := by
    rw [hW2, hW1]
    exact ((Wr.refl w (some g)).drew.trans (Wr.setRow w.drew A1) (fun i hi => .inl hi)).trans (Wr.setRow (w.drew.setRow g A1) A2) (fun i hi => .inl hi)
  have hfin : W2.ownsRow base 54 7 (.slice (some ⟨g, 0, none⟩) (n - 1) cap) (n - 1) (xs.take (i * 7) ++ xs.drop ((i + 1) * 7)) := by
    have ht : xs.take (i * 7) = cur.toList.take (i * 7) := by rw [← htake, List.take_take, Nat.min_eq_left (by omega)]
    refine ⟨by simp [hxl]; omega, .inr ⟨g, cap, A2, rfl, hbg, hg2, by omega, hcm, by rw [hA2]; simp; omega, ?_⟩⟩
    have hl2 : (cur.toList.take (i * 7) ++ news).length = (n - 1) * 7 := by rw [List.length_append, List.length_take, Array.length_toList, hnl]; omega
    rw [← hnews, ht, hA2]
    simp only [List.toList_toArray, List.append_assoc]
    rw [List.take_append_of_le_length (by rw [List.length_take, Array.length_toList]; omega), List.take_take, Nat.min_eq_left (by omega), hA1]
    simp only [List.toList_toArray]
    rw [List.take_append_of_le_length (by omega), List.take_of_length_le (by omega)]
  have HF := Lib.hid hfin
  have HW := Lib.hid hwr
  have HA := Lib.hid hA
  have hnm : ((n - 1 : Nat) : Int) < (n : Int) := by omega
  have hnm2 : ¬ cap = n - 1 := by omega
  have hnm3 : n - (n - 1) = 1 := by omega
  have hnm4 : ((n - 1 : Nat) : Int) ≤ (n : Int) := by omega
  clear hfin hwr hzv hZ hg2 hg1 hst hs1 hW2 hW1 hA2 hA1 hsrc hnl hn1 hnews hfit hg hcs htake h1 hxl hzl hz1c hzs
  go_enter Tryz.func81, Tryz.ntmps81
  go_wp2_with fail
  go_region_law (refine stepE_append_run _ rfl _ _ 31 31 rfl _ _ (by simp [Act.eval, Act.put]) (by simp [Act.eval, Act.put]) (hap _) ?_)
  go_wp2_with fail
  go_ret
  exact ⟨rfl, HF.out, HW.out⟩
end Go.Proofs.YtpapoalgocmlaaaGreat
namespace Go.Proofs.YtpapoalgocmlaaaGreat
open Go.RowKit
set_option linter.unusedVariables false
set_option linter.unusedSimpArgs false
section
variable {P : Program} (w : World)
theorem stepN_append_run {ops : Array Oper} {o : Oper} {a : Act} {K : Act → World → Prop} {Q : Exit → Act → World → Prop} {E : Prop} (hgd : o.guard = none) (d s : Operand) (t t' : TypeId)
    (ho : o.op = .call { callee := .builtin .append, args := #[d, s], argTypes := #[t, t'] }) (v u : Value) (hd : a.eval d = v) (hs : a.eval s = u) {v' : Value} {w' : World}
    (hr : (Builtin.append_ #[t, t'] o.type #[v, u]).run P w = .ok v' w') (h : K (a.put o.dst v') w') :
    if Region.wanted o (yielded ops a.tmps) = true then Oper.wp P o a w K Q else E := by
  have hw : Region.wanted o (yielded ops a.tmps) = true := by simp [Region.wanted, hgd]
  rw [if_pos hw]
  unfold Oper.wp execOp
  simp only [ho, resolve, invoke, builtin, Sem.run_bind, Sem.run_pure, Result.andThen_ok, List.map_toArray, List.map_cons, List.map_nil, hd, hs, hr]
  exact h
end
def DelPostN (base : Nat) (s : Sl) (n i : Nat) (xs : List Value) (w : World) (e : Ending) (w' : World) : Prop :=
  e = .returned (.slice s.a (n - 1) s.c) ∧ w'.ownsRow base 25 1 (.slice s.a (n - 1) s.c) (n - 1) (xs.take (i * 1) ++ xs.drop ((i + 1) * 1)) ∧ Wr w w' s.row
theorem zeroN (w : World) : (zeroValue 25).run Tryz.prog w = .ok (.pointer none) w := by kernel_rfl
set_option maxRecDepth 100000 in
set_option maxHeartbeats 1000000 in
theorem delN_any {w : World} {base n i : Nat} {s : Sl} {xs : List Value} (hown : w.ownsRow base 25 1 (.slice s.a n s.c) n xs) (hn : n ≤ 1000) (hin : i < n) (h1 : ∀ u ∈ xs, u.oneCell' = true) :
    Calls Tryz.prog 104 #[.slice s.a n s.c, .int .i64 i, .int .i64 ((i : Int) + 1)] w (DelPostN base s n i xs w) := by
  obtain ⟨i0, hi, hz0, hz1, hz2⟩ := info_parts Tryz.infoPNode
  rcases hown.2 with ⟨hs, h0⟩ | ⟨g, cap, cur, hs, hbg, hg, hnc, hcm, hcs, htake⟩
  · omega
  simp only [Value.slice.injEq] at hs
  obtain ⟨ha, -, hc⟩ := hs
  have hs' : s = ⟨some ⟨g, 0, none⟩, cap⟩ := by cases s; simp_all
  have hxl := hown.1
  subst hs'
  clear hown ha hc
  have hic : i ≤ cap := by omega
  have hin' : (i : Int) < (n : Int) := by omega
  have hin1 : (i : Int) + 1 ≤ (n : Int) := by omega
  have hi0 : (0 : Int) ≤ (i : Int) := by omega
  have hib : (0 : Int) ≤ (i : Int) + 1 := by omega
  have hii : (i : Int) ≤ (i : Int) + 1 := by omega
  have hne : ((i : Int) == (i : Int) + 1) = false := beq_eq_false_iff_ne.2 (by omega)
  have hcm' : (cap : Int) ≤ 9223372036854775807 := by unfold maxLen at hcm; omega
  have hncI : (n : Int) ≤ (cap : Int) := by omega
  have htn : ((i : Int) + 1).toNat = i + 1 := by omega
  obtain ⟨news, hnews⟩ : ∃ news, news = xs.drop ((i + 1) * 1) := ⟨_, rfl⟩
  have hnl : news.length = (n - (i + 1)) * 1 := by rw [hnews, List.length_drop, hxl, ← Nat.sub_mul]
  have hn1 : ∀ u ∈ news, u.oneCell' = true := fun u hu => h1 u (List.mem_of_mem_drop (hnews ▸ hu))
  obtain ⟨A, hA, hsrc⟩ : ∃ A : Addr, (if cap = i + 1 then some (⟨g, 0, none⟩ : Addr) else some ⟨g, i + 1, none⟩) = some A ∧ (∀ j u, news[j]? = some u → w.drew.cell? (A.add j) = some u) := by
    by_cases h : cap = i + 1
    · refine ⟨⟨g, 0, none⟩, by simp [h], fun t u hu => ?_⟩
      have h0 : news.length = 0 := by rw [hnl, show n - (i + 1) = 0 from by omega, Nat.zero_mul]
      rw [List.length_eq_zero_iff.1 h0] at hu
      simp at hu
    · refine ⟨⟨g, i + 1, none⟩, by simp [h], fun j u hu => ?_⟩
      rw [add_at, World.cell?_drew, cell_of_row w g _ cur 25 (0, 0) hg]
      rw [hnews, List.getElem?_drop, ← htake, List.getElem?_take] at hu
      split at hu
      · simpa [Nat.add_comm, Nat.add_left_comm, Nat.add_assoc, Nat.mul_comm] using hu
      · cases hu
  obtain ⟨A1, hA1⟩ : ∃ A1, A1 = (cur.toList.take (i * 1) ++ news ++ cur.toList.drop (i * 1 + news.length)).toArray := ⟨_, rfl⟩
  have hfit : i * 1 + news.length ≤ cur.size := by rw [hnl, hcs]; omega
  have hs1 : A1.size = cur.size := by rw [hA1]; simp; omega
  obtain ⟨W1, hW1⟩ : ∃ W1, W1 = w.drew.setRow g A1 := ⟨_, rfl⟩
  have hap : ∀ ty, (Builtin.append_ #[66, 66] ty #[.slice (some ⟨g, 0, none⟩) i cap, .slice (some A) (n - (i + 1)) (cap - (i + 1))]).run Tryz.prog w.drew = .ok (.slice (some ⟨g, 0, none⟩) (n - 1) cap) W1 := fun ty => by
    have h := run_append_room (P := Tryz.prog) w.drew 66 ty 25 i0 Tryz.underlying66 hi g i cap cur hg A (n - (i + 1)) (cap - (i + 1)) news (by rw [hz1]; exact hnl) hsrc hn1 (by omega) (by rw [hz1]; exact hfit)
    rw [hz1] at h
    rw [hW1, hA1, h, show i + (n - (i + 1)) = n - 1 from by omega]
  have hg1 : W1.heap[g]? = some (.cells A1 25 (0, 0)) := by rw [hW1]; exact setRow_heap w.drew g cur A1 25 (0, 0) hg
  obtain ⟨Z, hZ⟩ : ∃ Z, Z = ((.pointer none) : Value) := ⟨_, rfl⟩
  have hzv : ∀ w, (zeroValue 25).run Tryz.prog w = .ok Z w := fun w => by rw [hZ]; exact zeroN w
  obtain ⟨zs, hzs⟩ : ∃ zs, zs = (Builtin.zeroCells Z.cells 1).toList := ⟨_, rfl⟩
  have hzl : zs.length = 1 := by rw [hzs, Array.length_toList, size_zeroCells, hZ]; rfl
  have hz1c : ∀ u ∈ zs, u.oneCell' = true := by
    have : zs.all (·.oneCell') = true := by rw [hzs, hZ]; kernel_rfl
    exact fun u hu => List.all_eq_true.1 this u hu
  obtain ⟨A2, hA2⟩ : ∃ A2, A2 = (A1.toList.take (n - 1) ++ zs ++ A1.toList.drop (n - 1 + zs.length)).toArray := ⟨_, rfl⟩
  obtain ⟨W2, hW2⟩ : ∃ W2, W2 = W1.setRow g A2 := ⟨_, rfl⟩
  have hst := run_storeCells_at Tryz.prog g (n - 1) 25 zs 0 A1 W1 hg1 (by rw [hzl, hs1, hcs]; omega) hz1c
  have hcl : ∀ ty c, (Builtin.clear_ #[66] ty #[.slice (some ⟨g, n - 1, none⟩) 1 c]).run Tryz.prog W1 = .ok (.tuple #[]) W2 := fun ty c => by
    simp only [Nat.add_zero] at hst
    rw [← hA2, ← hW2] at hst
    rw [hzs] at hst
    simp [Builtin.clear_, run_underlying Tryz.underlying66, hzv, hst]
  have hg2 : W2.heap[g]? = some (.cells A2 25 (0, 0)) := by rw [hW2]; exact setRow_heap W1 g A1 A2 25 (0, 0) hg1
  have hwr : Wr w W2 (some g) := by
    rw [hW2, hW1]
    exact ((Wr.refl w (some g)).drew.trans (Wr.setRow w.drew A1) (fun i hi => .inl hi)).trans (Wr.setRow (w.drew.setRow g A1) A2) (fun i hi => .inl hi)
  have hfin : W2.ownsRow base 25 1 (.slice (some ⟨g, 0, none⟩) (n - 1) cap) (n - 1) (xs.take (i * 1) ++ xs.drop ((i + 1) * 1)) := by
    have ht : xs.take (i * 1) = cur.toList.take (i * 1) := by rw [← htake, List.take_take, Nat.min_eq_left (by omega)]
    refine ⟨by simp [hxl]; omega, .inr ⟨g, cap, A2, rfl, hbg, hg2, by omega, hcm, by rw [hA2]; simp; omega, ?_⟩⟩
    have hl2 : (cur.toList.take (i * 1) ++ news).length = (n - 1) * 1 := by rw [List.length_append, List.length_take, Array.length_toList, hnl]; omega
    rw [← hnews, ht, hA2]
    simp only [List.toList_toArray, List.append_assoc]
    rw [List.take_append_of_le_length (by rw [List.length_take, Array.length_toList]; omega), List.take_take, Nat.min_eq_left (by omega), hA1]
    simp only [List.toList_toArray]
    rw [List.take_append_of_le_length (by omega), List.take_of_length_le (by omega)]
  have HF := Lib.hid hfin
  have HW := Lib.hid hwr
  have HA := Lib.hid hA
  have hnm : ((n - 1 : Nat) : Int) < (n : Int) := by omega
  have hnm2 : ¬ cap = n - 1 := by omega
  have hnm3 : n - (n - 1) = 1 := by omega
  have hnm4 : ((n - 1 : Nat) : Int) ≤ (n : Int) := by omega
  clear hfin hwr hzv hZ hg2 hg1 hst hs1 hW2 hW1 hA2 hA1 hsrc hnl hn1 hnews hfit hg hcs htake h1 hxl hzl hz1c hzs
  go_enter Tryz.func104, Tryz.ntmps104
  go_wp2_with fail
  go_region_law (refine stepN_append_run _ rfl _ _ 66 66 rfl _ _ (by simp [Act.eval, Act.put]) (by simp [Act.eval, Act.put]) (hap _) ?_)
  go_wp2_with fail
  go_ret
  exact ⟨rfl, HF.out, HW.out⟩
end Go.Proofs.YtpapoalgocmlaaaGreat
namespace Go.Proofs.YtpapoalgocmlaaaGreat
open Go.RowKit
structure St (H : Nat → Prop) (w w' : World) : Prop where
  os : w'.os = w.os
  tape : w'.tape = w.tape
  output : w'.output = w.output
  size : w.heap.size ≤ w'.heap.size
  block : ∀ b, b < w.heap.size → ¬ H b → w'.heap[b]? = w.heap[b]?
  fz : ∀ b o, w'.frozen? ⟨b, o, none⟩ = w.frozen? ⟨b, o, none⟩
theorem Ext.fz {w w' : World} (h : Ext w w') (b o : Nat) : w'.frozen? ⟨b, o, none⟩ = w.frozen? ⟨b, o, none⟩ := by
  by_cases hl : b < w.heap.size
  · exact h.frozen hl
  · rw [h.free _ _ (by omega), frozen_none (by omega)]
theorem Ext.st {w w' : World} (h : Ext w w') (H : Nat → Prop) : St H w w' := ⟨h.below.os, h.below.tape, h.below.output, h.size, fun _ hb _ => h.heap hb, h.fz⟩
theorem St.refl (H : Nat → Prop) (w : World) : St H w w := (Ext.refl w).st H
theorem Wr.st {w w' : World} {row : Option Nat} (h : Wr w w' row) {H : Nat → Prop} (hr : ∀ i, row = some i → H i) : St H w w' :=
  ⟨h.grown.os, h.grown.tape, h.grown.output, h.grown.size, fun b hb hn => h.grown.block b hb fun e => hn (hr b e.symm), h.fz⟩
theorem St.trans {H : Nat → Prop} {a b c : World} (h : St H a b) (k : St H b c) : St H a c :=
  ⟨k.os.trans h.os, k.tape.trans h.tape, k.output.trans h.output, Nat.le_trans h.size k.size, fun i hi hn => (k.block i (Nat.lt_of_lt_of_le hi h.size) hn).trans (h.block i hi hn), fun b o => (k.fz b o).trans (h.fz b o)⟩
theorem St.mono {H G : Nat → Prop} {a b : World} (h : St H a b) (hG : ∀ i, i < a.heap.size → H i → G i) : St G a b :=
  ⟨h.os, h.tape, h.output, h.size, fun i hi hn => h.block i hi fun hh => hn (hG i hi hh), h.fz⟩
theorem St.ext_of {H : Nat → Prop} {w w' : World} (h : St H w w') (hH : ∀ b, b < w.heap.size → ¬ H b) : Ext w w' :=
  ⟨⟨h.os, h.tape, h.output, h.size, fun b hb => h.block b hb (hH b hb)⟩, fun b o hb => (h.fz b o).trans (frozen_none hb)⟩
theorem Ext.step {a w w' : World} {H : Nat → Prop} (h : Ext a w) (k : St H w w') (hH : ∀ b, H b → a.heap.size ≤ b) : Ext a w' :=
  (St.trans (h.st H) k).ext_of fun b hb hh => by have := hH b hh; omega
theorem St.ext {H : Nat → Prop} {a b c : World} (h : St H a b) (k : Ext b c) : St H a c := h.trans (k.st H)
theorem St.set {H : Nat → Prop} {a w : World} (h : St H a w) {p : Addr} (hp : a.heap.size ≤ p.block ∨ H p.block) (u : Value) : St H a (w.setCell p u) :=
  ⟨h.os, h.tape, h.output, by simpa [World.setCell] using h.size, fun i hi hn => (Below.heap_setCell w p u i (by
    rintro rfl
    rcases hp with hp | hp
    · omega
    · exact hn hp)).trans (h.block i hi hn), fun b o => by rw [World.frozen?_setCell]; exact h.fz b o⟩
theorem St.heap {H : Nat → Prop} {w w' : World} (h : St H w w') {b : Nat} (hb : b < w.heap.size) (hn : ¬ H b) : w'.heap[b]? = w.heap[b]? := h.block b hb hn
theorem St.cell {H : Nat → Prop} {w w' : World} (h : St H w w') {b o : Nat} (hb : b < w.heap.size) (hn : ¬ H b) : w'.cell? ⟨b, o, none⟩ = w.cell? ⟨b, o, none⟩ :=
  World.cell?_of_block (w := w) (a := ⟨b, o, none⟩) (h.block b hb hn)
theorem St.drewN {H : Nat → Prop} {a w : World} (h : St H a w) (n : Nat) : St H a (w.drewN n) := h.ext ((Ext.refl w).drewN n)
theorem St.drew {H : Nat → Prop} {a w : World} (h : St H a w) : St H a w.drew := h.ext ((Ext.refl w).drew)
theorem St.alloc {H : Nat → Prop} {a w : World} (h : St H a w) (c : Array Value) (t : TypeId) : St H a (w.alloc (.cells c t)) := h.ext ((Ext.refl w).alloc c t)
theorem St.blk {H : Nat → Prop} {w w' : World} {g : Nat} {t : TypeId} {cs : Array Value} (h : St H w w') (hb : Blk w g t cs) (hn : ¬ H g) : Blk w' g t cs := (h.block g hb.lt hn).trans hb
abbrev NH (H : Nat → Prop) (w : World) : Nat → Prop := fun b => b < w.heap.size ∧ ¬ H b
theorem St.agree {H : Nat → Prop} {w w' : World} (h : St H w w') : Agree (NH H w) w w' := fun b hb => h.block b hb.1 hb.2
theorem NH.lt {H : Nat → Prop} {w : World} {b : Nat} (h : NH H w b) : Lt w.heap.size b := h.1
end Go.Proofs.YtpapoalgocmlaaaGreat
namespace Go.Proofs.YtpapoalgocmlaaaGreat
open Go.RowKit
set_option linter.unusedVariables false
set_option linter.unusedSimpArgs false
theorem pos_split (es : List Ent) (k : ByteArray) (hs : Sorted es) : (∀ e ∈ es.take (posE es k), klt e.1 k = true) ∧ (∀ e ∈ es.drop (posE es k), klt e.1 k = false) := by
  have e1 : es.take (posE es k) = es.takeWhile fun e => klt e.1 k := (List.prefix_iff_eq_take.1 (List.takeWhile_prefix (l := es) (fun e : Ent => klt e.1 k))).symm
  have e2 : es.drop (posE es k) = es.dropWhile fun e => klt e.1 k := by
    have h1 := List.take_append_drop (posE es k) es
    rw [e1] at h1
    have h2 := List.takeWhile_append_dropWhile (p := fun e : Ent => klt e.1 k) (l := es)
    exact List.append_cancel_left (h1.trans h2.symm)
  refine ⟨fun e he => ?_, fun e he => ?_⟩
  · rw [e1] at he
    exact List.all_eq_true.1 (List.all_takeWhile (l := es) (p := fun e : Ent => klt e.1 k)) e he
  · have hsd : Sorted (es.drop (posE es k)) := List.Pairwise.sublist (List.drop_sublist _ _) hs
    rw [e2] at he hsd
    cases hd : es.dropWhile fun e => klt e.1 k with
    | nil => rw [hd] at he; cases he
    | cons x xs =>
      rw [hd] at he hsd
      have hx : klt x.1 k = false := by
        have := List.head?_dropWhile_not (fun e : Ent => klt e.1 k) es
        rw [hd] at this
        simpa using this
      rcases List.mem_cons.1 he with rfl | he
      · exact hx
      · have := (List.pairwise_cons.1 hsd).1 e he
        cases hc : klt e.1 k
        · rfl
        · rw [klt_trans this hc] at hx; cases hx
theorem getE_pos {es : List Ent} (hs : Sorted es) (k : ByteArray) : getE es k = (es[posE es k]?).bind fun e => if e.1 = k then some e.2 else none := by
  obtain ⟨hA, hB⟩ := pos_split es k hs
  have hsd : Sorted (es.drop (posE es k)) := List.Pairwise.sublist (List.drop_sublist _ _) hs
  conv => lhs; rw [← List.take_append_drop (posE es k) es]
  rw [getE_app hA, ← Nat.add_zero (posE es k), ← List.getElem?_drop, Nat.add_zero]
  cases hd : es.drop (posE es k) with
  | nil => rfl
  | cons x xs =>
    rw [hd] at hsd hB
    simp only [List.getElem?_cons_zero, Option.bind_some, getE]
    by_cases hx : x.1 = k
    · simp [hx]
    · simp only [hx, if_false]
      refine getE_none fun e he => ?_
      have h1 := klt_of_not (hB x (List.mem_cons_self ..)) hx
      have h2 := klt_trans h1 ((List.pairwise_cons.1 hsd).1 e he)
      rintro rfl
      rw [klt_irrefl] at h2; cases h2
theorem delE_pos {es : List Ent} (hs : Sorted es) (k : ByteArray) : delE es k = if (es[posE es k]?).map Prod.fst = some k then es.take (posE es k) ++ es.drop (posE es k + 1) else es := by
  obtain ⟨hA, hB⟩ := pos_split es k hs
  conv => lhs; rw [← List.take_append_drop (posE es k) es]
  rw [delE_app hA, delE_at hB, List.head?_drop, List.tail_drop]
  split
  · rfl
  · rw [List.take_append_drop]
def GetPost (o : Option Val) (w : World) (e : Ending) (w' : World) : Prop :=
  ∃ sl so, e = .returned (.tuple #[aggV (o.getD zeroV) sl so, .bool o.isSome]) ∧ Ext w w' ∧ RV w' (In w.heap.size w'.heap.size) (o.getD zeroV) sl so
set_option maxRecDepth 100000 in
/-- The closure of get. -/
theorem get1_any {W : World} {nv : Value} {b1 b2 : Nat} {k k' : ByteArray} {v : Val} {i : Nat} (h1 : W.cell? ⟨b1, 0, none⟩ = some nv) (h2 : W.cell? ⟨b2, 0, none⟩ = some (.string k))
    (hp : ∃ p, nv = .pointer p) (hc : Calls Tryz.prog 73 #[nv, .int .i64 i] W (EntryPost k' v W)) :
    Calls Tryz.prog 72 #[.int .i64 i, .pointer (some ⟨b1, 0, none⟩), .pointer (some ⟨b2, 0, none⟩)] W fun e w' => e = .returned (.bool !(klt k' k)) ∧ Ext W w' := by
  obtain ⟨p, rfl⟩ := hp
  have hb2 := World.block_lt_of_cell? W _ h2
  go_enter Tryz.func72, Tryz.ntmps72
  go_wp2_with fail
  refine hc.mono ?_
  rintro e w1 ⟨sl, so, rfl, hx, -⟩
  have q2 := (hx.cell hb2).trans h2
  have l2 : b2 < w1.heap.size := Nat.lt_of_lt_of_le hb2 hx.size
  have HX := Lib.hid hx
  clear hc hx h2
  go_wp2
  go_ret
  exact ⟨rfl, HX.out.alloc _ _⟩
structure GetS (w : World) (nv : Value) (k : ByteArray) (W : World) : Prop where
  ext : Ext w W
  b0 : Blk W w.heap.size 25 #[nv]
  b1 : Blk W (w.heap.size + 1) 9 #[.string k]
  b2 : Blk W (w.heap.size + 1 + 1) 51 #[.int .i64 0, .bool false, .int .i64 0, .string ByteArray.empty, .slice none 0 0, .slice none 0 0]
theorem GetS.step {w W W' : World} {nv : Value} {k : ByteArray} (h : GetS w nv k W) (he : Ext W W') : GetS w nv k W' := ⟨h.ext.trans he, h.b0.ext he, h.b1.ext he, h.b2.ext he⟩
theorem entry_nil (w : World) (i : Int) : Calls Tryz.prog 73 #[.pointer none, .int .i64 i] w fun e w' => e = .returned (.tuple #[aggE ByteArray.empty zeroV Sl.none Sl.none, .bool false]) ∧ Ext w w' := by
  go_enter Tryz.func73, Tryz.ntmps73
  go_wp2_with fail
  refine bodyPost_ret (v := .tuple #[aggE ByteArray.empty zeroV Sl.none Sl.none, .bool false]) (by simp [results, Tryz.results73, go_sem]; exact ⟨rfl, rfl, rfl, rfl, rfl, rfl, rfl⟩) rfl ⟨rfl, (Ext.refl w).alloc _ _⟩
set_option maxRecDepth 100000 in
set_option maxHeartbeats 1000000 in
theorem get_leaf {w : World} {nv : Value} {es : List Ent} (hp : ∃ p, nv = .pointer p) (hh : ∀ W, Ext w W → Calls Tryz.prog 63 #[nv] W fun e w' => e = .returned (.int .i64 0) ∧ W = w')
    (hz : ∀ W, Ext w W → Calls Tryz.prog 71 #[nv] W fun e w' => e = .returned (.int .i64 es.length) ∧ ∃ q, w' = W.drewN q)
    (he : ∀ W, Ext w W → ∀ (i : Nat) (e : Ent), es[i]? = some e → Calls Tryz.prog 73 #[nv, .int .i64 i] W (EntryPost e.1 e.2 W))
    (hno : ∀ W, Ext w W → ∀ i : Nat, es.length ≤ i → Calls Tryz.prog 73 #[nv, .int .i64 i] W fun e w' => e = .returned (.tuple #[aggE ByteArray.empty zeroV Sl.none Sl.none, .bool false]) ∧ Ext W w')
    (hs : Sorted es) (hl : es.length ≤ 1000) (k : ByteArray) : Calls Tryz.prog 52 #[nv, .string k] w (GetPost (getE es k) w) := by
  have HH := Lib.hid hh
  have HZ := Lib.hid hz
  have HE := Lib.hid he
  have HNO := Lib.hid hno
  have HS := Lib.hid hs
  obtain ⟨pp, rfl⟩ := hp
  clear hh hz he hno hs
  have hsr : ∀ W, GetS w (.pointer pp) k W → Calls Tryz.prog 70 #[.int .i64 es.length, .func (.func 72) #[] #[.pointer (some ⟨w.heap.size, 0, none⟩), .pointer (some ⟨w.heap.size + 1, 0, none⟩)]] W (SearchPost es.length (fun i => !(klt ((es[i]?.map Prod.fst).getD ByteArray.empty) k)) W) := by
    intro W hW
    refine search_any 72 _ _ es.length _ W (enters_of Tryz.func72 (by kernel_rfl) rfl) (by omega) ?_ ?_
    · intro i W' hi hW'
      obtain ⟨x, hx⟩ : ∃ x, es[i]? = some x := ⟨_, List.getElem?_eq_getElem hi⟩
      rw [hx]
      have hS := hW.step hW'
      exact get1_any (hS.b0.cell 0) (hS.b1.cell 0) ⟨_, rfl⟩ (HE.out W' hS.ext i x hx)
    · intro i j hij hj hpi
      by_cases hij' : i = j
      · subst hij'; exact hpi
      · obtain ⟨x, hx⟩ : ∃ x, es[i]? = some x := ⟨_, List.getElem?_eq_getElem (by omega)⟩
        obtain ⟨y, hy⟩ : ∃ y, es[j]? = some y := ⟨_, List.getElem?_eq_getElem hj⟩
        have hxy := sorted_lt HS.out (i := i) (j := j) (by omega) hx hy
        rw [hx] at hpi; rw [hy]
        simp only [Option.map_some, Option.getD_some, Bool.not_eq_true'] at hpi ⊢
        cases hyk : klt y.1 k
        · rfl
        · have := klt_trans hxy hyk
          rw [hpi] at this; cases this
  go_enter Tryz.func52, Tryz.ntmps52
  go_wp2_with fail
  generalize hW0 : World.alloc _ _ = W0
  obtain ⟨hx0, hz0, hb0, hb1, hb2⟩ := three_blocks w _ _ _ _ _ _ W0 hW0
  have hS0 : GetS w (.pointer pp) k W0 := ⟨hx0, hb0, hb1, hb2⟩
  have HS0 := Lib.hid hS0
  have q0 : W0.cell? ⟨w.heap.size, 0, none⟩ = some (.pointer pp) := hb0.cell 0
  clear hW0 hb0 hb1 hb2 hS0
  refine (HH.out W0 hx0).mono ?_
  rintro e w1 ⟨rfl, rfl⟩
  go_wp2_with fail
  refine (HZ.out W0 hx0).mono ?_
  rintro e w1 ⟨rfl, q, rfl⟩
  go_wp2_with fail
  refine (hsr _ (HS0.out.step ((Ext.refl _).drewN q))).mono ?_
  rintro e w1 ⟨p, rfl, hp, hlo, hhi, he1⟩
  have hS1 := HS0.out.step (((Ext.refl _).drewN q).trans he1)
  have HS1 := Lib.hid hS1
  have r0 : w1.cell? ⟨w.heap.size, 0, none⟩ = some (.pointer pp) := hS1.b0.cell 0
  have hpos : posE es k = p := posE_of hp (fun i e hi he => by
      have : (!(klt ((es[i]?.map Prod.fst).getD ByteArray.empty) k)) = false := hlo i hi
      rw [he] at this
      simpa using this) (fun e he => by
      have : (!(klt ((es[p]?.map Prod.fst).getD ByteArray.empty) k)) = true := hhi p (Nat.le_refl _) (List.getElem?_eq_some_iff.1 he).1
      rw [he] at this
      simpa using this)
  have hget : getE es k = (es[p]?).bind fun e => if e.1 = k then some e.2 else none := by rw [getE_pos HS.out, hpos]
  have HG := Lib.hid hget
  clear hlo hhi hpos hsr he1 hS1 q0 hget hx0 hz0
  go_wp2_with fail
  by_cases hlt : p < es.length
  · obtain ⟨x, hx⟩ : ∃ x, es[p]? = some x := ⟨_, List.getElem?_eq_getElem hlt⟩
    have hc := HE.out w1 HS1.out.ext p x hx
    have HX := Lib.hid hx
    clear hx
    refine hc.mono ?_
    rintro e w2 ⟨sl, so, rfl, hx2, hrv⟩
    have hS2 := HS1.out.step hx2
    have HS2 := Lib.hid hS2
    have q1 : w2.cell? ⟨w.heap.size + 1, 0, none⟩ = some (.string k) := hS2.b1.cell 0
    obtain ⟨c0, c1, c2, c3, c4, c5⟩ := hS2.b2.c6
    have f2 := hS2.b2.frozen
    have l2 := hS2.b2.lt
    have l1 : w.heap.size + 1 < w2.heap.size := by omega
    have HRV := Lib.hid hrv
    clear hS2 hx2 hrv hc
    by_cases hk : x.1 = k
    · have hkb : (x.1.toList == k.toList) = true := by rw [beq_toList]; simpa using hk
      have hg : getE es k = some x.2 := by rw [HG.out, HX.out]; simp [hk]
      have HGG := Lib.hid hg
      clear hk hg
      go_wp2_with fail
      refine bodyPost_ret (v := .tuple #[aggV x.2 sl so, .bool true]) (by simp [results, Tryz.results52, go_sem, c0, c1, c2, c3, c4, c5, l2]) rfl ?_
      have hE := HS2.out.ext.putV (b := w.heap.size + 1 + 1) (by omega) 0 x.2 sl so
      have hr := (HRV.out.mono (G := In w.heap.size w2.heap.size) fun i hi => ⟨Nat.le_trans HS1.out.ext.size hi.1, hi.2⟩)
      have hr2 : RV w2 (fun b => In w.heap.size w2.heap.size b ∧ b ≠ w.heap.size + 1 + 1) x.2 sl so := HRV.out.mono fun i hi => ⟨⟨Nat.le_trans HS1.out.ext.size hi.1, hi.2⟩, by have := HS1.out.b2.lt; have := hi.1; omega⟩
      have hr3 := hr2.agree (putV_agree w2 (w.heap.size + 1 + 1) 0 x.2 sl so (F := fun b => In w.heap.size w2.heap.size b ∧ b ≠ w.heap.size + 1 + 1) (fun h => h.2 rfl))
      refine ⟨sl, so, by rw [HGG.out]; rfl, hE.alloc _ _, ?_⟩
      rw [HGG.out]
      refine (hr3.agree (Agree.alloc _ _ (fun b hb => by rw [putV_size]; exact hb.1.2))).mono fun i hi => ⟨hi.1.1, ?_⟩
      have := hi.1.2
      simp; omega
    · have hkb : (x.1.toList == k.toList) = false := by rw [beq_toList]; simpa using hk
      have hg : getE es k = none := by rw [HG.out, HX.out]; simp [hk]
      have HGG := Lib.hid hg
      clear hk hg
      go_wp2_with fail
      refine bodyPost_ret (v := .tuple #[aggV zeroV Sl.none Sl.none, .bool false]) (by simp [results, Tryz.results52, go_sem, c0, c1, c2, c3, c4, c5, l2]; exact ⟨rfl, rfl, rfl, rfl, rfl, rfl⟩) rfl ?_
      have hE := HS2.out.ext.putV (b := w.heap.size + 1 + 1) (by omega) 0 zeroV Sl.none Sl.none
      exact ⟨Sl.none, Sl.none, by rw [HGG.out]; rfl, hE.alloc _ _, by rw [HGG.out]; exact RV.flat _ _ _ _ _ _ rfl rfl (by decide)⟩
  · have hnn : es[p]? = none := List.getElem?_eq_none (by omega)
    have hg : getE es k = none := by rw [HG.out, hnn]; rfl
    have hc := HNO.out w1 HS1.out.ext p (by omega)
    have HGG := Lib.hid hg
    clear hg hnn
    refine hc.mono ?_
    rintro e w2 ⟨rfl, hx2⟩
    have hS2 := HS1.out.step hx2
    have HS2 := Lib.hid hS2
    obtain ⟨c0, c1, c2, c3, c4, c5⟩ := hS2.b2.c6
    have f2 := hS2.b2.frozen
    have l2 := hS2.b2.lt
    clear hS2 hx2 hc
    go_wp2_with fail
    refine bodyPost_ret (v := .tuple #[aggV zeroV Sl.none Sl.none, .bool false]) (by simp [results, Tryz.results52, go_sem, c0, c1, c2, c3, c4, c5, l2]; exact ⟨rfl, rfl, rfl, rfl, rfl, rfl⟩) rfl ?_
    have hE := HS2.out.ext.putV (b := w.heap.size + 1 + 1) (by omega) 0 zeroV Sl.none Sl.none
    exact ⟨Sl.none, Sl.none, by rw [HGG.out]; rfl, hE.alloc _ _, by rw [HGG.out]; exact RV.flat _ _ _ _ _ _ rfl rfl (by decide)⟩
theorem get_nil (w : World) (k : ByteArray) : Calls Tryz.prog 52 #[.pointer none, .string k] w (GetPost none w) :=
  get_leaf (es := []) ⟨_, rfl⟩ (fun W _ => height_nil W) (fun W _ => (size_nil W).mono fun e w' ⟨h1, h2⟩ => ⟨h1, 0, h2.symm⟩) (fun W _ i e h => by simp at h) (fun W _ i _ => entry_nil W i) List.Pairwise.nil (by simp) k
theorem get_zero {w : World} {t : PT 0} (hn : IsN w (Lt w.heap.size) 0 t) (ok : OkT 0 t) (hs : Sorted (ents 0 t)) (k : ByteArray) : Calls Tryz.prog 52 #[ptr 0 t, .string k] w (GetPost (getE (ents 0 t) k) w) := by
  have ok8 : (ents 0 t).length ≤ 8 := ok
  exact get_leaf ⟨_, rfl⟩ (fun W hW => height_any (hn.ext hW)) (fun W hW => size_any (hn.ext hW) (Nat.le_trans ok8 (by decide))) (fun W hW i e h => entry_any (hn.ext hW) h) (fun W hW i h => entry_none (hn.ext hW) (.inr (Int.ofNat_le.2 h))) hs (Nat.le_trans ok8 (by decide)) k
set_option maxRecDepth 100000 in
set_option maxHeartbeats 1000000 in
theorem get_succ {h : Nat} {k : ByteArray}
    (ih : ∀ (w : World) (F : Nat → Prop) (t : PT h), (∀ b, F b → b < w.heap.size) → IsN w F h t → OkT h t → Sorted (ents h t) → (ents h t).length ≤ 1000000 → Calls Tryz.prog 52 #[ptr h t, .string k] w (GetPost (getE (ents h t) k) w))
    {w : World} {F : Nat → Prop} {t : PT (h + 1)} (hF : ∀ b, F b → b < w.heap.size) (hn : IsN w F (h + 1) t) (ok : OkT (h + 1) t) (hs : Sorted (ents (h + 1) t)) (hc : (ents (h + 1) t).length ≤ 1000000) :
    Calls Tryz.prog 52 #[ptr (h + 1) t, .string k] w (GetPost (getE (ents (h + 1) t) k) w) := by
  have hpos := kids_pos ok
  have hh : h + 1 < 1000000 := Nat.lt_of_lt_of_le (height_lt (h + 1) t ok (by have := ok.1; show 1 ≤ t.2.length; omega)) hc
  obtain ⟨kid, hkid, hA, hC⟩ := which_split (h := h) (ks := t.2) hs hpos (by have := ok.1; omega) k
  have hkm' := List.mem_of_getElem? hkid
  have hil := (List.getElem?_eq_some_iff.1 hkid).1
  have hlen8 := ok.2.1
  have hks : ∀ x ∈ t.2, IsN w F h x := hn.2.choose_spec.2.2
  have hkc : (ents h kid).length ≤ 1000000 := Nat.le_trans (by
    show _ ≤ (t.2.flatMap (ents h)).length
    rw [take_mid hkid]; simp only [List.flatMap_append, List.flatMap_cons, List.length_append]; omega) hc
  have hge : getE (ents (h + 1) t) k = getE (ents h kid) k := getE_kid hkid hA hC
  rw [hge]
  have hih : ∀ W, Ext w W → Calls Tryz.prog 52 #[ptr h kid, .string k] W (GetPost (getE (ents h kid) k) W) := fun W hW =>
    ih W F kid (fun b hb => Nat.lt_of_lt_of_le (hF b hb) hW.size) ((hks kid hkm').agree (hW.agree hF)) (ok.2.2 kid hkm').1 (kid_sorted hs kid hkm') hkc
  generalize getE (ents h kid) k = og at *
  clear hge
  have HF := Lib.hid hF
  have HN := Lib.hid hn
  have HS := Lib.hid hs
  have HP := Lib.hid hpos
  have HIH := Lib.hid hih
  have HKS := Lib.hid hks
  have HKID := Lib.hid hkid
  have hgt : (0 : Int) < (h : Int) + 1 := by omega
  clear hF hn ok hs hc hpos hih hks hkid hA hC ih hkc
  go_enter Tryz.func52, Tryz.ntmps52
  go_wp2_with fail
  generalize hW0 : World.alloc _ _ = W0
  obtain ⟨hx0, hz0, hb0, hb1, hb2⟩ := three_blocks w _ _ _ _ _ _ W0 hW0
  have hS0 : GetS w (ptr (h + 1) t) k W0 := ⟨hx0, hb0, hb1, hb2⟩
  have HS0 := Lib.hid hS0
  have q0 : W0.cell? ⟨w.heap.size, 0, none⟩ = some (ptr (h + 1) t) := hb0.cell 0
  clear hW0 hb0 hb1 hb2 hS0
  have hnW : IsN W0 F (h + 1) t := HN.out.agree (hx0.agree HF.out)
  refine (height_any hnW).mono ?_
  rintro e w1 ⟨rfl, rfl⟩
  have hkc := kids_any hnW (by omega)
  clear hnW
  go_wp2_with fail
  refine hkc.mono ?_
  rintro e w1 ⟨s', rfl, hown, hx1⟩
  have hS1 := HS0.out.step hx1
  have HS1 := Lib.hid hS1
  have hrd : Rd w1 (Lt w1.heap.size) 1 s' t.2.length (ptrs h t.2) := (Rd.of_own hown).mono fun i hi => hi.2
  obtain ⟨g, cap, rfl, hbg, hnc, hcm, hfil⟩ := own_block hown (by omega)
  obtain ⟨i, hi⟩ : ∃ i, whichK h t.2 k = i := ⟨_, rfl⟩
  have hwh : ∀ W, Ext w1 W → Calls Tryz.prog 68 #[.slice (some ⟨g, 0, none⟩) t.2.length cap, .string k] W fun e w' => e = .returned (.int .i64 i) ∧ Ext W w' := fun W hW => by
    rw [← hi]
    exact which_any (s := ⟨some ⟨g, 0, none⟩, cap⟩) ((hrd.agree (hW.agree fun _ h => h)).mono fun i hi => Nat.lt_of_lt_of_le hi hW.size) (fun x hx => (HKS.out x hx).agree ((hS1.ext.trans hW).agree HF.out)) (fun b hb => Nat.lt_of_lt_of_le (HF.out b hb) (hS1.ext.trans hW).size) HP.out k HS.out (by omega)
  have hkid := HKID.out
  rw [hi] at hkid hil
  obtain ⟨b, o, hba, hbl, -, -, hbc⟩ := hrd.ptr_at hkid
  obtain ⟨rfl, rfl⟩ : g = b ∧ 0 = o := by simpa using hba
  have kc : w1.cell? ⟨g, i, none⟩ = some (ptr h kid) := by simpa using hbc
  have k1 : w1.cell? ⟨w.heap.size + 1, 0, none⟩ = some (.string k) := hS1.b1.cell 0
  have hg1 : g < w1.heap.size := hbl
  have hgn : ¬ g = w.heap.size + 1 + 1 := by omega
  have hgn' : ¬ w.heap.size + 1 + 1 = g := by omega
  clear hz0
  have l1 : w.heap.size + 1 < w1.heap.size := hS1.b1.lt
  have hii : (i : Int) < (t.2.length : Int) := by omega
  have hi0 : (0 : Int) ≤ (i : Int) := by omega
  have HWH := Lib.hid hwh
  have HHI := Lib.hid hi
  clear hwh hi hkid hbc hba hfil hown hrd hx1 hx0 hS1 hkc q0
  go_wp2_with fail
  go_region_held3 (fun w' => w'.cell? ⟨g, i, none⟩ = some (ptr h kid) ∧ w'.cell? ⟨w.heap.size + 1, 0, none⟩ = some (.string k)) (first | (with_reducible exact ⟨g3, k3⟩) | (with_reducible exact ⟨g2, k2⟩) | go_keep)
    (first
      | (go_at_call 68; refine (HWH.out _ ?_).mono ?_; (exact ((Ext.refl _).drew)); rintro e w2 ⟨rfl, hx2⟩; have g2 := (hx2.cell (o := i) hg1).trans kc; have k2 := (hx2.cell (o := 0) l1).trans k1; have hg2 := Nat.lt_of_lt_of_le hg1 hx2.size; have l2 := Nat.lt_of_lt_of_le l1 hx2.size)
      | (go_at_call 52; refine (HIH.out _ ?_).mono ?_; (exact HS1.out.ext.trans (((Ext.refl _).drew).trans hx2)); rintro e w3 ⟨sl, so, rfl, hx3, hrv⟩; have g3 := (hx3.cell (o := i) hg2).trans g2; have k3 := (hx3.cell (o := 0) l2).trans k2; have hS3 := HS1.out.step ((((Ext.refl _).drew).trans hx2).trans hx3); obtain ⟨c0, c1, c2, c3, c4, c5⟩ := hS3.b2.c6; have f3 := hS3.b2.frozen; have HS3 := Lib.hid hS3; have HX3 := Lib.hid hx3; have HRV := Lib.hid hrv; have HX2 := Lib.hid hx2; clear hS3 hx3 hrv hx2))
  go_wp2_with fail
  refine bodyPost_ret (v := .tuple #[aggV (og.getD zeroV) sl so, .bool og.isSome]) (by simp [results, Tryz.results52, go_sem, c0, c1, c2, c3, c4, c5]) rfl ?_
  have hE := HS3.out.ext.putV (b := w.heap.size + 1 + 1) (by omega) 0 (og.getD zeroV) sl so
  have hb2 := HS1.out.b2.lt
  have hX2 := HX2.out.size
  have hX3 := HX3.out.size
  have hE1 := HS1.out.ext.size
  rw [World.size_drew] at hX2
  have hr2 : RV w3 (fun b => In w.heap.size w3.heap.size b ∧ b ≠ w.heap.size + 1 + 1) (og.getD zeroV) sl so := HRV.out.mono fun i hi => ⟨⟨by have := hi.1; omega, hi.2⟩, by have := hi.1; omega⟩
  have hr3 := hr2.agree (putV_agree w3 (w.heap.size + 1 + 1) 0 (og.getD zeroV) sl so (F := fun b => In w.heap.size w3.heap.size b ∧ b ≠ w.heap.size + 1 + 1) (fun h => h.2 rfl))
  exact ⟨sl, so, rfl, hE, hr3.mono fun i hi => ⟨hi.1.1, by have := hi.1.2; simpa using this⟩⟩
theorem get_any {k : ByteArray} : ∀ (h : Nat) (w : World) (F : Nat → Prop) (t : PT h), (∀ b, F b → b < w.heap.size) → IsN w F h t → OkT h t → Sorted (ents h t) → (ents h t).length ≤ 1000000 → Calls Tryz.prog 52 #[ptr h t, .string k] w (GetPost (getE (ents h t) k) w)
  | 0, w, F, t, hF, hn, ok, hs, _ => get_zero (hn.mono hF) ok hs k
  | h + 1, w, F, t, hF, hn, ok, hs, hc => get_succ (fun w F t a b c d e => get_any h w F t a b c d e) hF hn ok hs hc
theorem getPost_end {w w3 : World} {b lo : Nat} {og : Option Val} {sl so : Sl} (hE : Ext w w3) (hb : w.heap.size ≤ b) (hlt : b < lo) (hr : RV w3 (In lo w3.heap.size) (og.getD zeroV) sl so) :
    GetPost og w (.returned (.tuple #[aggV (og.getD zeroV) sl so, .bool og.isSome])) (putV w3 b 0 (og.getD zeroV) sl so) := by
  refine ⟨sl, so, rfl, hE.putV hb _ _ _ _, ?_⟩
  rw [putV_size]
  exact (hr.agree (putV_agree w3 b 0 (og.getD zeroV) sl so (by omega))).mono fun i hi => ⟨by omega, hi.2⟩
theorem two_blocks (w : World) (t0 t1 : TypeId) (c0 c1 : Array Value) : ∀ W, (w.alloc (.cells c0 t0)).alloc (.cells c1 t1) = W →
    Ext w W ∧ W.heap.size = w.heap.size + 2 ∧ Blk W w.heap.size t0 c0 ∧ Blk W (w.heap.size + 1) t1 c1 := by
  rintro W rfl
  refine ⟨((Ext.refl w).alloc _ _).alloc _ _, by simp, (Blk.new w t0 c0).alloc _, ?_⟩
  have h := Blk.new (w.alloc (.cells c0 t0)) t1 c1
  rw [World.size_alloc] at h; exact h
theorem getR_any {w : World} {F : Nat → Prop} {T : RT} (hF : ∀ b, F b → b < w.heap.size) (hT : IsT w F T) (ok : OkR T) (hc : (entsT T).length ≤ 1000000) (k : ByteArray) :
    Calls Tryz.prog 52 #[rootV T, .string k] w (GetPost (getE (entsT T) k) w) := by
  match T, hT, ok, hc with
  | none, _, _, _ => exact get_nil w k
  | some ⟨h, t⟩, hT, ok, hc => exact get_any h w F t hF hT ok.1 ok.2.2 hc
set_option maxRecDepth 100000 in
set_option maxHeartbeats 400000 in
theorem treeGet_any {w : World} {F : Nat → Prop} {T : RT} (hF : ∀ b, F b → b < w.heap.size) (hT : IsT w F T) (ok : OkR T) (hc : (entsT T).length ≤ 1000000) (k : ByteArray) :
    Calls Tryz.prog 23 #[treeV T, .string k] w (GetPost (getE (entsT T) k) w) := by
  have hcw : ∀ W, Ext w W → Calls Tryz.prog 52 #[rootV T, .string k] W (GetPost (getE (entsT T) k) W) := fun W hW =>
    getR_any (fun b hb => Nat.lt_of_lt_of_le (hF b hb) hW.size) (hT.agree (hW.agree hF)) ok hc k
  generalize getE (entsT T) k = og at *
  have HW := Lib.hid hcw
  clear hF hT ok hcw
  go_enter Tryz.func23, Tryz.ntmps23
  go_wp2_with fail
  generalize hW0 : World.alloc _ _ = W0
  obtain ⟨hx0, hz0, -, hb1⟩ := two_blocks w _ _ _ _ W0 hW0
  have HZ := Lib.hid hz0
  have HX0 := Lib.hid hx0
  clear hW0 hz0
  refine (HW.out W0 hx0).mono ?_
  rintro e w1 ⟨sl, so, rfl, hx1, hrv⟩
  have hb := hb1.ext hx1
  obtain ⟨c0, c1, c2, c3, c4, c5⟩ := hb.c6
  have f2 := hb.frozen
  have HX1 := Lib.hid hx1
  have HRV := Lib.hid hrv
  clear hb hb1 hx1 hrv hx0
  go_wp2_with fail
  refine bodyPost_ret (v := .tuple #[aggV (og.getD zeroV) sl so, .bool og.isSome]) (by simp [results, Tryz.results23, go_sem, c0, c1, c2, c3, c4, c5]) rfl ?_
  exact getPost_end (HX0.out.trans HX1.out) (b := w.heap.size + 1) (lo := W0.heap.size) (by omega) (by rw [HZ.out]; omega) HRV.out
end Go.Proofs.YtpapoalgocmlaaaGreat
namespace Go.Proofs.YtpapoalgocmlaaaGreat
open Go.RowKit
set_option linter.unusedVariables false
inductive BuiltR : List Ent → RT → Prop
  | nil : BuiltR [] none
  | snoc {es : List Ent} {T T' : RT} {B : Nat} {k : ByteArray} {v : Val} (h : BuiltR es T) (hp : PutR B k v T T') : BuiltR (es ++ [(k, v)]) T'
def putAll (es : List Ent) (l : List Ent) : List Ent := l.foldl (fun m e => insE m e.1 e.2) es
theorem putAll_snoc (es l : List Ent) (e : Ent) : putAll es (l ++ [e]) = insE (putAll es l) e.1 e.2 := by simp [putAll]
theorem putAll_len (l : List Ent) : ∀ es : List Ent, (putAll es l).length ≤ es.length + l.length := by
  induction l with
  | nil => intro es; exact Nat.le_refl _
  | cons a l ih =>
    intro es
    have := ih (insE es a.1 a.2)
    have h2 := insE_len es a.1 a.2
    simp only [putAll, List.foldl_cons, List.length_cons] at *
    omega
theorem BuiltR.both {l : List Ent} {T : RT} (h : BuiltR l T) : (OkR T) ∧ entsT T = putAll [] l := by
  induction h with
  | nil => exact ⟨trivial, rfl⟩
  | snoc h hp ih => exact ⟨hp.ok ih.1, by rw [hp.ents ih.1, ih.2, putAll_snoc]⟩
end Go.Proofs.YtpapoalgocmlaaaGreat
namespace Go.Proofs.YtpapoalgocmlaaaGreat
open Go.RowKit
set_option linter.unusedVariables false
inductive DelT (B : Nat) (k : ByteArray) : RT → RT → Prop
  | no {T : RT} (h : getE (entsT T) k = none) : DelT B k T T
  | same {h : Nat} {t u : PT h} (hg : (getE (ents h t) k).isSome = true) (hd : DelR B k h t u) (hp : 0 < (ents h u).length) (h2 : h = 0 ∨ 2 ≤ size h u) : DelT B k (some ⟨h, t⟩) (some ⟨h, u⟩)
  | gone {t u : PT 0} (hg : (getE (ents 0 t) k).isSome = true) (hd : DelR B k 0 t u) (h0 : ents 0 u = []) : DelT B k (some ⟨0, t⟩) none
  | down {h : Nat} {t : PT (h + 1)} {u : PT h} (hg : (getE (ents (h + 1) t) k).isSome = true) (hd : DelK B k h (DelR B k h) t.2 [u]) : DelT B k (some ⟨h + 1, t⟩) (some ⟨h, u⟩)
theorem DelT.mono {A B : Nat} (hAB : A ≤ B) {k : ByteArray} {T T' : RT} (hd : DelT B k T T') : DelT A k T T' := by
  cases hd with
  | no h => exact .no h
  | same hg hd hp h2 => exact .same hg (hd.mono hAB) hp h2
  | gone hg hd h0 => exact .gone hg (hd.mono hAB) h0
  | down hg hd => exact .down hg (hd.mono hAB fun _ _ hr => hr.mono hAB)
theorem getE_entsT (h : Nat) (t : PT h) : entsT (some ⟨h, t⟩) = Proofs.YtpapoalgocmlaaaGreat.ents h t := rfl
theorem DelT.ents {B : Nat} {k : ByteArray} {T T' : RT} (hd : DelT B k T T') (ok : OkR T) : entsT T' = delE (entsT T) k := by
  cases hd with
  | no h => exact (delE_none h).symm
  | same hg hd hp h2 => exact hd.ents ok.1 ok.2.2
  | gone hg hd h0 => exact h0.symm.trans (hd.ents ok.1 ok.2.2)
  | down hg hd =>
    rename_i h t u
    have ok1 := ok.1
    have := hd.ents ok.2.2 (kids_pos ok1) (by have := ok1.1; omega) fun x y hx hr => hr.ents (ok1.2.2 x hx).1 (kid_sorted ok.2.2 x hx)
    rw [List.flatMap_cons, List.flatMap_nil, List.append_nil] at this
    exact this
theorem delK_root {B : Nat} {k : ByteArray} {h : Nat} {t : PT (h + 1)} {ks' : List (PT h)} (hd : DelK B k h (DelR B k h) t.2 ks') (ok : OkT (h + 1) t) (hs : Sorted (ents (h + 1) t)) (hg : (getE (ents (h + 1) t) k).isSome = true) :
    (∀ u ∈ ks', OkT h u ∧ 4 ≤ size h u) ∧ ks'.length ≤ t.2.length ∧ t.2.length ≤ ks'.length + 1 := by
  refine hd.ok ok.2.2 ok.1 fun x y hx hxk hr => ?_
  obtain ⟨kid2, hk2, hA, hC⟩ := which_split (h := h) (ks := t.2) hs (kids_pos ok) (by have := ok.1; omega) k
  rw [hxk] at hk2
  simp only [Option.some.injEq] at hk2
  subst hk2
  have := hr.ok (ok.2.2 x hx).1 (ok.2.2 x hx).2 (kid_sorted hs x hx) (by rw [← getE_kid hxk hA hC]; exact hg)
  exact ⟨this.1, this.2.1⟩
theorem DelT.ok {B : Nat} {k : ByteArray} {T T' : RT} (hd : DelT B k T T') (ok : OkR T) : OkR T' := by
  have hs : Sorted (entsT T') := by rw [hd.ents ok]; exact delE_sorted ok.sorted k
  cases hd with
  | no h => exact ok
  | same hg hd hp h2 =>
    rename_i h t u
    cases h with
    | zero =>
      have h1 := hd.1
      have : (delE t.2 k).length ≤ t.2.length := (delE_sublist t.2 k).length_le
      have o : t.2.length ≤ 8 := ok.1
      exact ⟨show u.2.length ≤ 8 by rw [h1]; omega, hp, hs⟩
    | succ h =>
      obtain ⟨h1, -⟩ := hd
      obtain ⟨a, b, c⟩ := delK_root h1 ok.1 ok.2.2 hg
      have h2 : 2 ≤ u.2.length := h2.resolve_left (by omega)
      have o8 := ok.1.2.1
      exact ⟨⟨h2, by omega, a⟩, show 1 ≤ u.2.length by omega, hs⟩
  | gone hg hd h0 => trivial
  | down hg hd =>
    obtain ⟨a, b, c⟩ := delK_root hd ok.1 ok.2.2 hg
    rename_i h t u
    have := a u (List.mem_singleton.2 rfl)
    exact ⟨this.1, by omega, hs⟩
end Go.Proofs.YtpapoalgocmlaaaGreat
namespace Go.Proofs.YtpapoalgocmlaaaGreat
open Go.RowKit
set_option linter.unusedVariables false
inductive Sh where
  | mk (es : List Ent) (ks : List Sh)
def Sh.es : Sh → List Ent | .mk e _ => e
def Sh.ks : Sh → List Sh | .mk _ k => k
theorem Sh.sz_pos (d : Sh) : 0 < SizeOf.sizeOf d := by cases d; simp only [Sh.mk.sizeOf_spec]; omega
end Go.Proofs.YtpapoalgocmlaaaGreat
namespace Go.Proofs.YtpapoalgocmlaaaGreat
open Go.RowKit
set_option linter.unusedVariables false
structure SCells (w : World) (b o : Nat) (d : Sh) (c : Sl × Sl) : Prop where
  c0 : w.cell? ⟨b, o, none⟩ = some (.slice c.1.a d.es.length c.1.c)
  c1 : w.cell? ⟨b, o + 1, none⟩ = some (.slice c.2.a d.ks.length c.2.c)
theorem SCells.agree {w w' : World} {b o : Nat} {d : Sh} {c : Sl × Sl} (h : SCells w b o d c) {F : Nat → Prop} (ha : Agree F w w') (hb : F b) : SCells w' b o d c := ⟨(ha.cell hb).trans h.c0, (ha.cell hb).trans h.c1⟩
inductive RS (w : World) (F : Nat → Prop) : Sh → Sl → Sl → Prop
  | mk {es : List Ent} {ks : List Sh} {se sk : Sl} (xs : List LE) (bk fk : Nat) (c : Nat → Sl × Sl) (hx : xs.map LE.ent = es) (he : ES w F se xs) (hs : SlAt F sk ks.length bk fk)
      (ce : ∀ j d, ks[j]? = some d → SCells w bk (fk + j * 2) d (c j)) (re : ∀ j d, ks[j]? = some d → RS w F d (c j).1 (c j).2)
      (few : ks.length * 48 ≤ 140737488355328) : RS w F (.mk es ks) se sk
theorem RS.agree {w w' : World} {F : Nat → Prop} {d : Sh} {se sk : Sl} (h : RS w F d se sk) (ha : Agree F w w') : RS w' F d se sk := by
  induction h with
  | mk xs bk fk c hx he hs ce re few ih =>
    exact .mk xs bk fk c hx (he.agree ha) hs (fun j d hj => (ce j d hj).agree ha (hs.fits (lt_length hj))) (fun j d hj => ih j d hj) few
theorem RS.mono {w : World} {F G : Nat → Prop} {d : Sh} {se sk : Sl} (h : RS w F d se sk) (hG : ∀ i, F i → G i) : RS w G d se sk := by
  induction h with
  | mk xs bk fk c hx he hs ce re few ih => exact .mk xs bk fk c hx (he.mono hG) (hs.mono hG) ce (fun j d hj => ih j d hj) few
theorem RS.ext {w w' : World} {d : Sh} {se sk : Sl} (h : RS w (Lt w.heap.size) d se sk) (he : Ext w w') : RS w' (Lt w'.heap.size) d se sk :=
  (h.agree (he.agree fun _ h => h)).mono fun _ hi => Nat.lt_of_lt_of_le hi he.size
theorem RS.ents {w : World} {F : Nat → Prop} {d : Sh} {se sk : Sl} (h : RS w F d se sk) : ∃ xs, xs.map LE.ent = d.es ∧ ES w F se xs := by
  cases h with
  | mk xs bk fk c hx he hs ce re few => exact ⟨xs, hx, he⟩
theorem RS.kid {w : World} {F : Nat → Prop} {d : Sh} {se sk : Sl} (h : RS w F d se sk) {j : Nat} {k : Sh} (hk : d.ks[j]? = some k) :
    ∃ b o s1 s2, sk.a = some ⟨b, o, none⟩ ∧ F b ∧ d.ks.length ≤ sk.c ∧ sk.c ≤ maxLen ∧ SCells w b (o + j * 2) k (s1, s2) ∧ RS w F k s1 s2 := by
  cases h with
  | mk xs bk fk c hx he hs ce re few =>
    obtain ⟨e1, e2, e3⟩ := hs.eq (lt_length hk)
    exact ⟨bk, fk, (c j).1, (c j).2, e1, hs.fits (lt_length hk), e2, e3, ce j k hk, re j k hk⟩
theorem RS.few {w : World} {F : Nat → Prop} {d : Sh} {se sk : Sl} (h : RS w F d se sk) : d.ks.length * 48 ≤ 140737488355328 ∧ d.es.length * 104 ≤ 140737488355328 := by
  cases h with
  | mk xs bk fk c hx he hs ce re few => exact ⟨few, by subst hx; rw [Sh.es, List.length_map]; exact he.few⟩
end Go.Proofs.YtpapoalgocmlaaaGreat
namespace Go.Proofs.YtpapoalgocmlaaaGreat
open Go.RowKit
set_option linter.unusedVariables false
set_option linter.unusedSimpArgs false
def GatherPost (base : Nat) (s : Sl) (xs : List LE) (es : List Ent) (w : World) (e : Ending) (w' : World) : Prop :=
  ∃ (s' : Sl) (ys : List LE), e = .returned (.slice s'.a (xs.length + ys.length) s'.c) ∧ OE w' base s' (xs ++ ys) ∧ ys.map LE.ent = es ∧ Wr w w' s.row ∧ (s'.row = s.row ∨ ∃ b, s'.row = some b ∧ w.heap.size ≤ b)
theorem OE.append {w w' : World} {base : Nat} {s s' : Sl} {xs ys : List LE} {F : Nat → Prop} (ho : OE w base s xs) (hv : Vals w F ys) (hF : ∀ b, F b → base ≤ b ∧ b < w.heap.size ∧ s.row ≠ some b) (hf : (xs.length + ys.length) * 104 ≤ 140737488355328)
    (hown : w'.ownsRow base 54 7 (.slice s'.a (xs.length + ys.length) s'.c) (xs.length + ys.length) (flatE xs ++ flatE ys)) (hwr : Wr w w' s.row) (hs' : s'.row = s.row ∨ ∃ b, s'.row = some b ∧ w.heap.size ≤ b) : OE w' base s' (xs ++ ys) := by
  have hnew : ∀ b, b < w.heap.size → s.row ≠ some b → s'.row ≠ some b := fun b hb hn he => by
    rcases hs' with h | ⟨g, h, hg⟩
    · exact hn (h ▸ he)
    · rw [h] at he; simp at he; omega
  have hag : Agree (fun b => (base ≤ b ∧ b < w.heap.size) ∧ s.row ≠ some b) w w' := hwr.agree (fun i hi => hi.1.2) (fun k hk h => h.2 hk)
  refine ⟨by rw [List.length_append, flatE_app]; exact hown, fun x hx => ?_, by rw [List.length_append]; exact hf⟩
  have hup : ∀ i, ((base ≤ i ∧ i < w.heap.size) ∧ s.row ≠ some i) → (base ≤ i ∧ i < w'.heap.size) ∧ s'.row ≠ some i := fun i hi => ⟨⟨hi.1.1, Nat.lt_of_lt_of_le hi.1.2 hwr.grown.size⟩, hnew i hi.1.2 hi.2⟩
  rcases List.mem_append.1 hx with hx | hx
  · exact ⟨((ho.vals x hx).1.agree hag).mono hup, (ho.vals x hx).2⟩
  · exact ⟨(((hv x hx).1.mono fun i hi => ⟨⟨(hF i hi).1, (hF i hi).2.1⟩, (hF i hi).2.2⟩).agree hag).mono hup, (hv x hx).2⟩
theorem EntriesPost.base {es : List Ent} {w : World} {e : Ending} {w' : World} (h : EntriesPost es w e w') : ∃ (s : Sl) (ys : List LE), e = .returned (.slice s.a ys.length s.c) ∧ ys.map LE.ent = es ∧ OE w' w.heap.size s ys ∧ Ext w w' := h
theorem ext_wr {w w' : World} (h : Ext w w') (r : Option Nat) : Wr w w' r := ⟨⟨h.below.os, h.below.tape, h.below.output, h.size, fun k hk _ => h.heap hk⟩, h.fz⟩
set_option maxRecDepth 100000 in
set_option maxHeartbeats 1000000 in
theorem gather_zero {w : World} {nv : Value} {es : List Ent} {base : Nat} {s : Sl} {xs : List LE} (he : Calls Tryz.prog 66 #[nv] w (EntriesPost es w)) (hk : ∀ W, Wr w W s.row → Calls Tryz.prog 51 #[nv] W fun e w' => e = .returned (.slice none 0 0) ∧ W = w')
    (hb : base ≤ w.heap.size) (ho : OE w base s xs) (hl : xs.length + es.length ≤ 1000000) : Calls Tryz.prog 58 #[.slice s.a xs.length s.c, nv] w (GatherPost base s xs es w) := by
  obtain ⟨i0, hi, hz0, hz1, hz2⟩ := info_parts Tryz.infoEntry
  have HK := Lib.hid hk
  have HO := Lib.hid ho
  clear hk ho
  go_enter Tryz.func58, Tryz.ntmps58
  go_wp2_with fail
  refine he.mono ?_
  intro e w1 hp
  obtain ⟨sy, ys, rfl, hys, hoy, hx1⟩ := hp.base
  have hyl : ys.length = es.length := by rw [← hys, List.length_map]
  have ho1 := HO.out.ext hx1
  have HO1 := Lib.hid ho1
  have HX1 := Lib.hid hx1
  have HOY := Lib.hid hoy
  have HYS := Lib.hid hys
  have h63 : xs.length + ys.length ≤ maxLen := by unfold maxLen; omega
  have hb1 : base ≤ w1.heap.size := Nat.le_trans hb hx1.size
  have hby : (xs.length + ys.length) * 104 ≤ 140737488355328 := by omega
  clear hp hys hoy hx1 ho1 hyl
  go_wp2_with (at_builtin; refine wpList_append_x _ rfl (.tmp 7) (.tmp 9) 31 rfl base 54 i0 _ 7 104 Tryz.underlying31 hi hz0 hz1 hz2 rfl (by decide) s xs.length (flatE xs) rfl HO1.out.own (In w.heap.size w1.heap.size) sy ys.length (flatE ys) rfl HOY.out.es.rd (flatE_one ys) h63 hby hb1 ?_; intro s' w2 hown hwr hs')
  have hs2 : s'.row = s.row ∨ ∃ b, s'.row = some b ∧ w1.heap.size ≤ b := by
    rcases hs' with h | ⟨h, -⟩
    · exact .inl (by simp [Sl.row, h])
    · exact .inr ⟨w1.heap.size, by simp [Sl.row, h], Nat.le_refl _⟩
  have hrow : ∀ b, s.row = some b → b < w.heap.size := fun b hb => (own_row HO.out.own hb).2
  have ho2 := OE.append HO1.out HOY.out.es.vals (fun b hb => ⟨Nat.le_trans ‹base ≤ w.heap.size› hb.1, hb.2, fun e => by have := hrow b e; omega⟩) hby hown hwr hs2
  have HO2 := Lib.hid ho2
  have HW := Lib.hid ((ext_wr HX1.out s.row).trans hwr (fun i hi => .inl hi))
  have HS2 := Lib.hid hs2
  have hx1s := HX1.out.size
  clear ho2 hown hwr hs' hs2 hrow
  refine (HK.out w2 HW.out).mono ?_
  rintro e w3 ⟨rfl, rfl⟩
  go_wp2_with fail
  go_loopw [0, 14] (fun v i wr => v = .slice s'.a (xs.length + ys.length) s'.c ∧ i = .int .i64 0 ∧ wr = w2) (fun _ _ _ => 0)
  case atStart => exact ⟨rfl, rfl, rfl⟩
  case round =>
    obtain ⟨rfl, rfl, rfl⟩ := hrel
    go_wp2_with fail
    go_ret
    exact ⟨s', ys, rfl, HO2.out, HYS.out, HW.out, HS2.out.imp_right fun ⟨b, h1, h2⟩ => ⟨b, h1, Nat.le_trans hx1s h2⟩⟩
structure GathS (base : Nat) (s : Sl) (xs : List LE) (w wr : World) (s' : Sl) (ys : List LE) : Prop where
  own : OE wr base s' (xs ++ ys)
  wr : Wr w wr s.row
  row : s'.row = s.row ∨ ∃ b, s'.row = some b ∧ w.heap.size ≤ b
set_option maxRecDepth 100000 in
set_option maxHeartbeats 1000000 in
theorem gather_succ {h : Nat} (ih : ∀ (t : PT h) (w : World) (F : Nat → Prop) (base : Nat) (s : Sl) (xs : List LE), IsN w F h t → (∀ b, F b → b < w.heap.size ∧ s.row ≠ some b) → base ≤ w.heap.size → OE w base s xs → OkT h t → xs.length + (ents h t).length ≤ 1000000 → Calls Tryz.prog 58 #[.slice s.a xs.length s.c, ptr h t] w (GatherPost base s xs (ents h t) w))
    {t : PT (h + 1)} {w : World} {F : Nat → Prop} {base : Nat} {s : Sl} {xs : List LE} (hn : IsN w F (h + 1) t) (hF : ∀ b, F b → b < w.heap.size ∧ s.row ≠ some b) (hb : base ≤ w.heap.size) (ho : OE w base s xs) (ok : OkT (h + 1) t) (hl : xs.length + (ents (h + 1) t).length ≤ 1000000) :
    Calls Tryz.prog 58 #[.slice s.a xs.length s.c, ptr (h + 1) t] w (GatherPost base s xs (ents (h + 1) t) w) := by
  obtain ⟨i0, hi, hz0, hz1, hz2⟩ := info_parts Tryz.infoEntry
  have hlen8 := ok.2.1
  have hlen2 := ok.1
  have hc := kids_any hn (by omega)
  have hks : ∀ x ∈ t.2, IsN w F h x := hn.2.choose_spec.2.2
  have he := entries_inner hn
  have HIH := Lib.hid ih
  have HO := Lib.hid ho
  have HF := Lib.hid hF
  have HKS := Lib.hid hks
  have HOK := Lib.hid ok
  have HL := Lib.hid hl
  have h63 : xs.length + 0 ≤ maxLen := by unfold maxLen; omega
  have hby : (xs.length + 0) * 104 ≤ 140737488355328 := by omega
  have hn0 := Lib.hid hn
  clear ih ho hF hks ok hl hn hc
  go_enter Tryz.func58, Tryz.ntmps58
  go_wp2_with fail
  refine he.mono ?_
  rintro e w1 ⟨rfl, rfl⟩
  go_wp2_with (at_builtin; refine wpList_append_x _ rfl (.tmp 7) (.tmp 9) 31 rfl base 54 i0 _ 7 104 Tryz.underlying31 hi hz0 hz1 hz2 rfl (by decide) s xs.length (flatE xs) rfl HO.out.own (fun _ => True) Sl.none 0 [] rfl (Rd.nil _ _ _) (by simp) h63 hby hb ?_; intro s' w2 hown hwr hs')
  have hs2 : s'.row = s.row ∨ ∃ b, s'.row = some b ∧ w.heap.size ≤ b := by
    rcases hs' with h | ⟨h, -⟩
    · exact .inl (by simp [Sl.row, h])
    · exact .inr ⟨w.heap.size, by simp [Sl.row, h], Nat.le_refl _⟩
  have ho2 : OE w2 base s' (xs ++ []) := OE.append (F := fun _ => False) HO.out (fun x hx => by simp at hx) (fun b hb => hb.elim) hby (by simpa [flatE_nil] using hown) hwr hs2
  rw [List.append_nil] at ho2
  have hrow2 : ∀ b, s'.row = some b → b < w2.heap.size := fun b hb => (own_row ho2.own hb).2
  have hnW : IsN w2 F (h + 1) t := hn0.out.agree (hwr.agree (fun i hi => (HF.out i hi).1) (fun k hk h => (HF.out k h).2 hk))
  have hkc := kids_any hnW (by omega)
  have HG0 := Lib.hid (show GathS base s xs w w2 s' [] from ⟨by rw [List.append_nil]; exact ho2, hwr, hs2⟩)
  clear hs' hown ho2 hwr hs2 hnW
  refine hkc.mono ?_
  rintro e w3 ⟨sk, rfl, hown, hx3⟩
  obtain ⟨g, cap, rfl, hbg, hnc, hcm, hfil⟩ := own_block hown (by omega)
  have hrd : Rd w3 (fun b => b = g) 1 ⟨some ⟨g, 0, none⟩, cap⟩ t.2.length (ptrs h t.2) := by
    obtain ⟨b, o, h1, h2, h3⟩ := Rd.of_own hown
    obtain ⟨e1, hnc, hcm⟩ := h1.eq (by omega)
    obtain ⟨rfl, rfl⟩ : g = b ∧ 0 = o := by simpa using e1
    exact ⟨g, 0, .some _ _ _ _ hnc hcm rfl, h2, h3⟩
  have hgr : s'.row ≠ some g := fun e => by have := hrow2 g e; omega
  have hgl : g < w3.heap.size := hfil.lt
  have HG3 := Lib.hid (show GathS base s xs w w3 s' [] from ⟨HG0.out.own.ext hx3, HG0.out.wr.trans (ext_wr hx3 none) (fun i hi => by cases hi), HG0.out.row⟩)
  have HRD := Lib.hid hrd
  clear hfil hown hx3 hrd hkc hrow2 HG0
  go_wp2_with fail
  go_loopw [0, 14] (fun v i wr => ∃ (j : Nat) (s'' : Sl) (ys : List LE), j ≤ t.2.length ∧ i = .int .i64 j ∧ v = .slice s''.a (xs.length + ys.length) s''.c ∧ ys.map LE.ent = (t.2.take j).flatMap (ents h) ∧ GathS base s xs w wr s'' ys ∧ Rd wr (fun b => b = g) 1 ⟨some ⟨g, 0, none⟩, cap⟩ t.2.length (ptrs h t.2) ∧ s''.row ≠ some g ∧ g < wr.heap.size)
    (fun _ i _ => t.2.length - (intOf i).toNat)
  case atStart => exact ⟨0, s', [], Nat.zero_le _, rfl, rfl, rfl, HG3.out, HRD.out, hgr, hgl⟩
  case round =>
    obtain ⟨j, s'', ys, hj, rfl, rfl, hys, hG, hrd, hgr', hgl'⟩ := hrel
    have HYS := Lib.hid hys
    have HG := Lib.hid hG
    have HR := Lib.hid hrd
    by_cases hlt : j < t.2.length
    · obtain ⟨kid, hkid⟩ : ∃ kid, t.2[j]? = some kid := ⟨_, List.getElem?_eq_getElem hlt⟩
      obtain ⟨b, o, hba, -, -, -, hbc⟩ := hrd.ptr_at hkid
      obtain ⟨rfl, rfl⟩ : g = b ∧ 0 = o := by simpa using hba
      have kc : wr.cell? ⟨g, j, none⟩ = some (ptr h kid) := by simpa using hbc
      have hjl : (j : Int) < (t.2.length : Int) := by omega
      have hkm := List.mem_of_getElem? hkid
      have hlen : ys.length + (ents h kid).length ≤ (ents (h + 1) t).length := by
        have e1 : ys.length = ((t.2.take j).flatMap (ents h)).length := by rw [← hys, List.length_map]
        show _ ≤ (t.2.flatMap (ents h)).length
        rw [e1]
        conv => rhs; rw [take_mid hkid]
        simp only [List.flatMap_append, List.flatMap_cons, List.length_append]; omega
      have hic := HIH.out kid wr F base s'' (xs ++ ys) ((HKS.out kid hkm).agree (hG.wr.agree (fun i hi => (HF.out i hi).1) (fun k hk h => (HF.out k h).2 hk)))
        (fun b hb => ⟨Nat.lt_of_lt_of_le (HF.out b hb).1 hG.wr.grown.size, fun e => by
          rcases hG.row with h | ⟨b', h, hb'⟩
          · exact (HF.out b hb).2 (h ▸ e)
          · rw [h] at e; simp at e; have := (HF.out b hb).1; omega⟩)
        (Nat.le_trans hb hG.wr.grown.size) hG.own (HOK.out.2.2 kid hkm).1 (by have := HL.out; rw [List.length_append]; omega)
      rw [List.length_append] at hic
      have HK := Lib.hid hkid
      clear hys hG hrd hkid hba hbc hkm hlen
      go_wp2_with fail
      refine hic.mono ?_
      rintro e w4 ⟨s4, zs, rfl, ho4, hz4, hw4, hr4⟩
      have HZ := Lib.hid hz4
      have hg4 : s4.row ≠ some g := fun e => by
        rcases hr4 with h | ⟨b', h, hb'⟩
        · exact hgr' (h ▸ e)
        · rw [h] at e; simp at e; omega
      have hG4 : GathS base s xs w w4 s4 (ys ++ zs) := by
        refine ⟨by rw [← List.append_assoc]; exact ho4, HG.out.wr.trans hw4 (fun i hi => ?_), ?_⟩
        · rcases HG.out.row with h | ⟨b', h, hb'⟩
          · exact .inl (h ▸ hi)
          · rw [h] at hi; simp at hi; exact .inr (by omega)
        · rcases hr4 with h | ⟨b', h, hb'⟩
          · rw [h]; exact HG.out.row
          · exact .inr ⟨b', h, Nat.le_trans HG.out.wr.grown.size hb'⟩
      have hR4 := HR.out.agree (hw4.agree (F := fun b => b = g) (fun i hi => by omega) (fun k hk e => hgr' (e ▸ hk)))
      have hgl4 : g < w4.heap.size := Nat.lt_of_lt_of_le hgl' hw4.grown.size
      have HG4 := Lib.hid hG4
      have HR4 := Lib.hid hR4
      have hw1 : (xs ++ ys).length + zs.length = xs.length + (ys ++ zs).length := by simp [Nat.add_assoc]
      have HW1 := Lib.hid hw1
      clear hz4 ho4 hw4 hr4 hG4 hR4 hw1 hic
      go_wp2_with fail
      go_roundw
      case rel => exact ⟨j + 1, s4, ys ++ zs, hlt, by go_num, by rw [← HW1.out]; simp, by rw [List.map_append, HYS.out, HZ.out, List.take_add_one, HK.out]; simp, HG4.out, HR4.out, hg4, hgl4⟩
      case measure => simp [intOf]; omega
    · obtain rfl : j = t.2.length := by omega
      clear hys hG hrd
      go_wp2_with fail
      go_ret
      exact ⟨s'', ys, rfl, HG.out.own, by rw [HYS.out, List.take_length]; rfl, HG.out.wr, HG.out.row⟩
theorem gather_any : ∀ (h : Nat) (t : PT h) (w : World) (F : Nat → Prop) (base : Nat) (s : Sl) (xs : List LE), IsN w F h t → (∀ b, F b → b < w.heap.size ∧ s.row ≠ some b) → base ≤ w.heap.size → OE w base s xs → OkT h t → xs.length + (ents h t).length ≤ 1000000 → Calls Tryz.prog 58 #[.slice s.a xs.length s.c, ptr h t] w (GatherPost base s xs (ents h t) w)
  | 0, t, w, F, base, s, xs, hn, hF, hb, ho, _, hl =>
    gather_zero (entries_any (hn.mono fun b hb => (hF b hb).1)) (fun W hW => kids_leaf (hn.agree (hW.agree (fun i hi => (hF i hi).1) (fun k hk h => (hF k h).2 hk)))) hb ho hl
  | h + 1, t, w, F, base, s, xs, hn, hF, hb, ho, ok, hl => gather_succ (gather_any h) hn hF hb ho ok hl
theorem kids_nil (w : World) : Calls Tryz.prog 51 #[.pointer none] w fun e w' => e = .returned (.slice none 0 0) ∧ w = w' := by
  go_enter Tryz.func51, Tryz.ntmps51
  go_wp2_with fail
  go_ret
  exact ⟨rfl, rfl⟩
theorem gatherR_any {T : RT} {w : World} {F : Nat → Prop} {base : Nat} {s : Sl} {xs : List LE} (hT : IsT w F T) (hF : ∀ b, F b → b < w.heap.size ∧ s.row ≠ some b) (hb : base ≤ w.heap.size) (ho : OE w base s xs) (ok : OkR T) (hl : xs.length + (entsT T).length ≤ 1000000) :
    Calls Tryz.prog 58 #[.slice s.a xs.length s.c, rootV T] w (GatherPost base s xs (entsT T) w) := by
  match T, hT, ok, hl with
  | none, _, _, hl => exact gather_zero ((entries_nil w).mono fun e w' ⟨h1, h2⟩ => ⟨Sl.none, [], h1, rfl, OE.nil _ _, h2 ▸ Ext.refl w⟩) (fun W _ => kids_nil W) hb ho hl
  | some ⟨h, t⟩, hT, ok, hl => exact gather_any h t w F base s xs hT hF hb ho ok.1 hl
theorem countR_any {w : World} {F : Nat → Prop} {T : RT} (hT : IsT w F T) : Calls Tryz.prog 56 #[rootV T] w fun e w' => e = .returned (.int .i64 (entsT T).length) ∧ w = w' := by
  match T, hT with
  | none, _ => exact count_nil w
  | some ⟨h, t⟩, hT => exact count_any hT
theorem treeLen_any {w : World} {F : Nat → Prop} {T : RT} (hF : ∀ b, F b → b < w.heap.size) (hT : IsT w F T) : Calls Tryz.prog 31 #[treeV T] w fun e w' => e = .returned (.int .i64 (entsT T).length) ∧ Ext w w' := by
  have hx : Ext w (w.alloc (.cells #[rootV T] 27)) := (Ext.refl w).alloc _ _
  have hc := countR_any (hT.agree (hx.agree hF))
  clear hF hT
  go_enter Tryz.func31, Tryz.ntmps31
  go_wp2_with fail
  refine hc.mono ?_
  rintro e w' ⟨rfl, rfl⟩
  go_wp2_with fail
  go_ret
  exact ⟨rfl, hx⟩
theorem treeRoot_any (w : World) (v : Value) : Calls Tryz.prog 41 #[.agg #[v]] w fun e w' => e = .returned v ∧ Ext w w' := by
  go_enter Tryz.func41, Tryz.ntmps41
  go_wp2_with fail
  go_ret
  exact ⟨rfl, (Ext.refl w).alloc _ _⟩
set_option maxRecDepth 100000 in
set_option maxHeartbeats 1000000 in
theorem treeEntries_any {w : World} {F : Nat → Prop} {T : RT} (hF : ∀ b, F b → b < w.heap.size) (hT : IsT w F T) (ok : OkR T) (hl : (entsT T).length ≤ 1000000) : Calls Tryz.prog 33 #[treeV T] w (EntriesPost (entsT T) w) := by
  obtain ⟨i0, hi, hz0, hz1, hz2⟩ := info_parts Tryz.infoEntry
  have hln : ∀ W, Ext w W → Calls Tryz.prog 31 #[treeV T] W fun e w' => e = .returned (.int .i64 (entsT T).length) ∧ Ext W w' := fun W hW =>
    treeLen_any (fun b hb => Nat.lt_of_lt_of_le (hF b hb) hW.size) (hT.agree (hW.agree hF))
  have hga : ∀ (W : World) (s : Sl), Ext w W → OE W w.heap.size s [] → Calls Tryz.prog 58 #[.slice s.a 0 s.c, rootV T] W (GatherPost w.heap.size s [] (entsT T) W) := fun W s hW ho =>
    gatherR_any (xs := []) (hT.agree (hW.agree hF)) (fun b hb => ⟨Nat.lt_of_lt_of_le (hF b hb) hW.size, fun e => by have := (own_row ho.own e).1; have := hF b hb; omega⟩) hW.size ho ok (by simpa using hl)
  generalize entsT T = es at *
  obtain ⟨MC, hms, hmk⟩ : ∃ MC : Array Value, MC.size = es.length * 7 ∧ ∀ W, (Instr.makeSlice 31 (.int .i64 0) (.int .i64 (es.length : Int))).run Tryz.prog W = .ok (.slice (some ⟨W.heap.size, 0, none⟩) 0 es.length) (W.alloc (.cells MC 54)) := by
    refine ⟨madeCells (Value.cells (.agg #[.string ByteArray.empty, .int .i64 0, .bool false, .int .i64 0, .string ByteArray.empty, .slice none 0 0, .slice none 0 0])) (es.length * 7), size_madeCells _ _, fun W => ?_⟩
    have h := run_make_rowN (P := Tryz.prog) 31 54 i0 _ Tryz.underlying31 hi hz0 .i64 .i64 0 es.length (Nat.zero_le _) (by rw [hz2]; omega) (by omega) W
    rw [hz1] at h
    exact h
  have HMS := Lib.hid hms
  have HLN := Lib.hid hln
  have HGA := Lib.hid hga
  clear hF hT ok hln hga hi hz0 hz1 hz2 hms
  go_enter Tryz.func33, Tryz.ntmps33
  go_wp2_with fail
  have hx0 : Ext w (w.alloc (.cells #[rootV T] 27)) := (Ext.refl w).alloc _ _
  have hb0 := Blk.new w 27 #[rootV T]
  generalize hW0 : World.alloc _ _ = W0 at *
  have r0 : W0.cell? ⟨w.heap.size, 0, none⟩ = some (rootV T) := hb0.cell 0
  have l0 := hb0.lt
  clear hW0
  go_region_held3 (fun w' => w'.cell? ⟨w.heap.size, 0, none⟩ = some (rootV T)) (first | (with_reducible exact r1) | (with_reducible exact r3) | go_keep)
    (first
      | (go_at_call 31; refine (HLN.out _ ?_).mono ?_; (exact hx0.drew); rintro e w1 ⟨rfl, hx1⟩; have r1 := (hx1.cell (o := 0) l0).trans r0; have l1 := Nat.lt_of_lt_of_le l0 hx1.size)
      | (go_at_call 58; refine (HGA.out _ ⟨some ⟨w1.heap.size, 0, none⟩, es.length⟩ ?_ ?_).mono ?_; (exact ((hx0.drew).trans hx1).alloc _ _); (exact ⟨World.ownsRow_made w1 MC es.length ((hx0.drew).trans hx1).size (by unfold maxLen; omega) HMS.out, fun x hx => by simp at hx, by simp⟩); rintro e w3 ⟨s3, ys, rfl, ho3, hy3, hw3, hr3⟩; have r3 : w3.cell? ⟨w.heap.size, 0, none⟩ = some (rootV T) := (World.cell?_of_block (w := w1.alloc (.cells MC 54)) (a := ⟨w.heap.size, 0, none⟩) (hw3.grown.block w.heap.size (by rw [World.size_alloc]; omega) (fun e => by simp [Sl.row] at e; omega))).trans ((World.cell?_alloc_lt _ _ _ l1).trans r1))
      )
  go_wp2_with fail
  go_ret
  have hX := ((hx0.drew).trans hx1).alloc MC 54
  exact ⟨s3, ys, rfl, hy3, by simpa using ho3, hX.wr hw3 (fun i hi => by simp [Sl.row] at hi; have := ((hx0.drew).trans hx1).size; omega)⟩
end Go.Proofs.YtpapoalgocmlaaaGreat
namespace Go.Proofs.YtpapoalgocmlaaaGreat
open Go.RowKit
section
variable {P : Program} (w : World)
theorem step_append_x {ops : Array Oper} {o : Oper} {a : Act} {K : Act → World → Prop} {Q : Exit → Act → World → Prop} {E : Prop} (hgd : o.guard = none) (s' x : Operand) (t : TypeId)
    (ho : o.op = .call { callee := .builtin .append, args := #[s', x], argTypes := #[t, t] })
    (base : Nat) (e : TypeId) (i : TypeInfo) (z : Value) (size bytes : Nat) (ht : P.underlying t = some (.slice e)) (hi : P.info? e = some i) (hz : i.zero = some z)
    (hsize : i.size = size) (hby : i.bytes = bytes) (hzs : z.cells.size = size) (hsz : 0 < size)
    (s : Sl) (n : Nat) (xs : List Value) (hs : a.eval s' = .slice s.a n s.c) (hown : w.ownsRow base e size (.slice s.a n s.c) n xs)
    (F : Nat → Prop) (sx : Sl) (m : Nat) (news : List Value) (hx : a.eval x = .slice sx.a m sx.c) (hsrc : Rd w F size sx m news) (h1 : ∀ u ∈ news, u.oneCell' = true)
    (h63 : n + m ≤ maxLen) (hbytes : (n + m) * bytes ≤ 140737488355328) (hbase : base ≤ w.heap.size)
    (h : ∀ (s' : Sl) (w' : World), w'.ownsRow base e size (.slice s'.a (n + m) s'.c) (n + m) (xs ++ news) → Wr w w' s.row → (s'.a = s.a ∨ s'.a = some ⟨w.heap.size, 0, none⟩ ∧ Wr w w' none) → K (a.put o.dst (.slice s'.a (n + m) s'.c)) w') :
    if Region.wanted o (yielded ops a.tmps) = true then Oper.wp P o a w K Q else E := by
  have hw : Region.wanted o (yielded ops a.tmps) = true := by simp [Region.wanted, hgd]
  rw [if_pos hw]
  exact wp_append_x w s' x t ho base e i z size bytes ht hi hz hsize hby hzs hsz s n xs hs hown F sx m news hx hsrc h1 h63 hbytes hbase h
theorem Rd.block {w : World} {g : Nat} {t : TypeId} {cs : List Value} {size n : Nat} (hb : Blk w g t cs.toArray) (hm : n ≤ maxLen) (hl : cs.length = n * size) : Rd w (fun b => b = g) size ⟨some ⟨g, 0, none⟩, n⟩ n cs :=
  ⟨g, 0, .some _ _ _ _ (Nat.le_refl _) hm rfl, hl, fun j u hj => by rw [Nat.zero_add, hb.cell]; simpa using hj⟩
end
end Go.Proofs.YtpapoalgocmlaaaGreat
namespace Go.Proofs.YtpapoalgocmlaaaGreat
open Go.RowKit
set_option linter.unusedVariables false
set_option linter.unusedSimpArgs false
end Go.Proofs.YtpapoalgocmlaaaGreat
namespace Go.Proofs.YtpapoalgocmlaaaGreat
open Go.RowKit
set_option linter.unusedVariables false
set_option linter.unusedSimpArgs false
def BuildPost (es : List Ent) (w : World) (e : Ending) (w' : World) : Prop :=
  ∃ T, e = .returned (treeV T) ∧ BuiltR es T ∧ IsT w' (In w.heap.size w'.heap.size) T ∧ Ext w w'
theorem rootV_ptr (T : RT) : ∃ p, rootV T = .pointer p := by
  match T with
  | none => exact ⟨_, rfl⟩
  | some ⟨h, t⟩ => exact ⟨_, rfl⟩
theorem ES.ext {w w' : World} {s : Sl} {xs : List LE} (h : ES w (Lt w.heap.size) s xs) (he : Ext w w') : ES w' (Lt w'.heap.size) s xs := (h.agree (he.agree fun _ h => h)).mono fun _ hi => Nat.lt_of_lt_of_le hi he.size
set_option maxRecDepth 100000 in
set_option maxHeartbeats 1000000 in
theorem build_any {w : World} {s : Sl} {xs : List LE} (hs : ES w (Lt w.heap.size) s xs) (hl : xs.length ≤ 100000) : Calls Tryz.prog 14 #[.slice s.a xs.length s.c] w (BuildPost (xs.map LE.ent) w) := by
  have HS := Lib.hid hs
  clear hs
  go_enter Tryz.func14, Tryz.ntmps14
  go_wp2_with fail
  generalize hW0 : World.alloc (World.alloc _ _) _ = W0
  obtain ⟨hxx, hzz, hb0, hb1⟩ := two_blocks w _ _ _ _ W0 hW0
  clear hW0
  go_loopw [8] (fun i wr => ∃ (j : Nat) (T : RT) (p : Option Addr), j ≤ xs.length ∧ i = .int .i64 j ∧ Ext w wr ∧ Blk wr w.heap.size 27 #[.pointer none] ∧ Blk wr (w.heap.size + 1) 27 #[.pointer p] ∧ Hid (rootV T = .pointer p) ∧ BuiltR ((xs.take j).map LE.ent) T ∧ IsT wr (In (w.heap.size + 2) wr.heap.size) T)
    (fun i _ => xs.length - (intOf i).toNat)
  case atStart => exact ⟨0, none, none, Nat.zero_le _, rfl, hxx, hb0, hb1, Lib.hid rfl, .nil, trivial⟩
  case round =>
    obtain ⟨j, T, p, hj, rfl, hx, hR, hS, HP, hB, hT⟩ := hrel
    clear hxx hzz hb0 hb1
    have HX := Lib.hid hx
    have HR := Lib.hid hR
    have HB := Lib.hid hB
    have HT := Lib.hid hT
    have HSS := Lib.hid hS
    have c0 : wr.cell? ⟨w.heap.size + 1, 0, none⟩ = some (.pointer p) := hS.cell 0
    have fS := hS.frozen
    have lS := hS.lt
    by_cases hlt : j < xs.length
    · obtain ⟨x, hxj⟩ : ∃ x, xs[j]? = some x := ⟨_, List.getElem?_eq_getElem hlt⟩
      obtain ⟨b, o, ha, hbl, hlc, hcm, k0, hv, hrv, hkm⟩ := (HS.out.ext hx).at hxj
      obtain ⟨v0, v1, v2, v3, v4, v5⟩ := hv.m
      have hil' : (j : Int) < (xs.length : Int) := by omega
      have hok := hB.both
      have hpt : ∀ W, Ext wr W → Calls Tryz.prog 26 #[.agg #[.pointer p], .string x.k, aggV x.v x.sl x.so] W (PutPost (In (w.heap.size + 2) wr.heap.size) T x.k x.v W) := fun W hW => by
        rw [← HP.out]
        exact put_any (fun b hb => Nat.lt_of_lt_of_le hb.2 hW.size) (hT.agree (hW.agree fun b hb => hb.2)) hok.1 (by
          rw [hok.2]
          have := putAll_len ((xs.take j).map LE.ent) []
          simp only [List.length_map, List.length_take, List.length_nil] at this
          omega) hkm ((hrv.agree (hW.agree fun b hb => hb)).mono fun b hb => Nat.lt_of_lt_of_le hb hW.size)
      obtain ⟨sa, sc⟩ := s
      dsimp only at ha
      subst ha
      have HPT := Lib.hid hpt
      have HXJ := Lib.hid hxj
      clear hx hR hS hB hT hxj hv hrv hok hpt
      go_wp2_with fail
      refine (HPT.out _ ((Ext.refl wr).alloc _ _)).mono ?_
      rintro e w2 ⟨T2, rfl, hp2, hT2, hx2⟩
      obtain ⟨p2, hq2⟩ := rootV_ptr T2
      have HQ2 := Lib.hid hq2
      dsimp only [treeV]
      rw [hq2]
      clear hq2
      have hX2 : Ext wr w2 := ((Ext.refl wr).alloc _ _).trans hx2
      have d0 : w2.cell? ⟨w.heap.size + 1, 0, none⟩ = some (.pointer p) := (hX2.cell lS).trans c0
      have f2 : ∀ o, w2.frozen? ⟨w.heap.size + 1, o, none⟩ = false := fun o => (hX2.frozen lS).trans (fS o)
      have hE := (HX.out.trans hX2).setCell (p := ⟨w.heap.size + 1, 0, none⟩) (show w.heap.size ≤ w.heap.size + 1 by omega) (.pointer p2)
      have hR2 := (HR.out.ext hX2).far (p := ⟨w.heap.size + 1, 0, none⟩) (by simp) (.pointer p2)
      have hS2 : Blk (w2.setCell ⟨w.heap.size + 1, 0, none⟩ (.pointer p2)) (w.heap.size + 1) 27 #[.pointer p2] := (HSS.out.ext hX2).set_ 0 _
      have hT3 : IsT (w2.setCell ⟨w.heap.size + 1, 0, none⟩ (.pointer p2)) (In (w.heap.size + 2) (w2.setCell ⟨w.heap.size + 1, 0, none⟩ (.pointer p2)).heap.size) T2 := by
        have hs2 := hX2.size
        have hlt := lS
        have hm : ∀ i, Up (In (w.heap.size + 2) wr.heap.size) (wr.alloc (.cells #[.string x.k, .int .i64 x.v.kind, .bool x.v.b, .int .i64 x.v.i, .string x.v.t, .slice x.sl.a x.v.l.length x.sl.c, .slice x.so.a x.v.ok.length x.so.c] 54)) w2 i → In (w.heap.size + 2) w2.heap.size i := fun i hi => by
          rcases hi with hi | hi
          · exact ⟨hi.1, Nat.lt_of_lt_of_le hi.2 hs2⟩
          · have := hi.1
            simp at this
            exact ⟨by omega, hi.2⟩
        refine ((hT2.mono hm).agree (Agree.setCell w2 ⟨w.heap.size + 1, 0, none⟩ _ (fun h => by have h1 : w.heap.size + 2 ≤ w.heap.size + 1 := h.1; omega))).mono fun i hi => ⟨hi.1, by simpa using hi.2⟩
      have HB2 := Lib.hid (BuiltR.snoc HB.out hp2)
      have H1 := Lib.hid hE
      have H2 := Lib.hid hR2
      have H3 := Lib.hid hS2
      have H4 := Lib.hid hT3
      clear hp2 hT2 hx2 hX2 hE hR2 hS2 hT3
      go_wp2_with fail
      go_roundw
      case rel => exact ⟨j + 1, T2, p2, hlt, by go_num, H1.out, H2.out, H3.out, HQ2, by rw [List.take_add_one, HXJ.out, List.map_append]; exact HB2.out, H4.out⟩
      case measure => simp [intOf]; omega
    · obtain rfl : j = xs.length := by omega
      have r0 : wr.cell? ⟨w.heap.size, 0, none⟩ = some (.pointer none) := hR.cell 0
      have fR := hR.frozen
      clear hx hR hS hB hT
      go_wp2_with fail
      have q0 : (wr.setCell ⟨w.heap.size, 0, none⟩ (.pointer p)).cell? ⟨w.heap.size, 0, none⟩ = some (.pointer p) := World.cell?_setCell_same wr _ _ r0
      refine bodyPost_ret (v := .agg #[.pointer p]) (by simp [results, Tryz.results14, go_sem, q0]) rfl ?_
      refine ⟨T, by rw [treeV, HP.out], by have := HB.out; rwa [List.take_length] at this, ?_, HX.out.setCell (p := ⟨w.heap.size, 0, none⟩) (Nat.le_refl _) _⟩
      exact (HT.out.agree (Agree.setCell wr ⟨w.heap.size, 0, none⟩ _ (fun h => by have h1 : w.heap.size + 2 ≤ w.heap.size := h.1; omega))).mono fun i hi => ⟨by have := hi.1; omega, by simpa using hi.2⟩
end Go.Proofs.YtpapoalgocmlaaaGreat
namespace Go.Proofs.YtpapoalgocmlaaaGreat
open Go.RowKit
set_option linter.unusedVariables false
set_option linter.unusedSimpArgs false
end Go.Proofs.YtpapoalgocmlaaaGreat
