/- What the theorem needs of the texts Mc, LeafNo: no condition of its own. -/
import Derived.Deep.RegionLaw
import Derived.Lib.SliceRun
import Derived.Laws.IdiomStrings
import Derived.WalkArith
import Derived.Test.YtohajcflklejjaaPoa
import Derived.Test.YtohajcflklejjaaPob
namespace Go.Proofs.Ytohajcflklejjaa
open Go.RowKit
set_option linter.unusedVariables false
def pairL {α : Type} (l r : List α) : List (List α) :=
  if 4 < l.length then [l.take (l.length - 1), l.drop (l.length - 1) ++ r] else if 4 < r.length then [l ++ r.take 1, r.drop 1] else [l ++ r]
theorem pairL_flat {α : Type} (l r : List α) : (pairL l r).flatten = l ++ r := by
  unfold pairL
  split
  · simp [← List.append_assoc]
  · split
    · simp only [List.flatten_cons, List.flatten_nil, List.append_nil, List.append_assoc, List.take_append_drop]
    · simp
theorem pairL_len {α : Type} (l r : List α) : (pairL l r).length = 1 ∨ (pairL l r).length = 2 := by
  unfold pairL
  split
  · simp
  · split <;> simp
theorem pairL_ok {α : Type} {l r : List α} (h : (l.length = 3 ∧ 4 ≤ r.length ∧ r.length ≤ 8) ∨ (4 ≤ l.length ∧ l.length ≤ 8 ∧ r.length = 3)) : ∀ x ∈ pairL l r, 4 ≤ x.length ∧ x.length ≤ 8 := by
  unfold pairL
  intro x hx
  split at hx
  · simp only [List.mem_cons, List.not_mem_nil, or_false] at hx
    rcases hx with rfl | rfl
    · rw [List.length_take]; omega
    · rw [List.length_append, List.length_drop]; omega
  · split at hx
    · simp only [List.mem_cons, List.not_mem_nil, or_false] at hx
      rcases hx with rfl | rfl
      · rw [List.length_append, List.length_take]; omega
      · rw [List.length_drop]; omega
    · simp only [List.mem_cons, List.not_mem_nil, or_false] at hx
      subst hx
      rw [List.length_append]; omega
theorem pairL_mem {α : Type} {l r : List α} {x : List α} (hx : x ∈ pairL l r) {a : α} (ha : a ∈ x) : a ∈ l ∨ a ∈ r := by
  have : a ∈ (pairL l r).flatten := List.mem_flatten.2 ⟨x, hx, ha⟩
  rw [pairL_flat] at this
  exact List.mem_append.1 this
def PairR (B : Nat) : (h : Nat) → PT h → PT h → List (PT h) → Prop
  | 0, l, r, ts => ts.map Prod.snd = pairL l.2 r.2 ∧ ∀ u ∈ ts, B ≤ u.1
  | _ + 1, l, r, ts => ts.map Prod.snd = pairL l.2 r.2 ∧ ∀ u ∈ ts, B ≤ u.1
theorem PairR.mono {A B : Nat} (hAB : A ≤ B) : ∀ {h : Nat} {l r : PT h} {ts : List (PT h)}, PairR B h l r ts → PairR A h l r ts
  | 0, _, _, _, ⟨h1, h2⟩ => ⟨h1, fun u hu => Nat.le_trans hAB (h2 u hu)⟩
  | _ + 1, _, _, _, ⟨h1, h2⟩ => ⟨h1, fun u hu => Nat.le_trans hAB (h2 u hu)⟩
theorem PairR.ents {B : Nat} : ∀ {h : Nat} {l r : PT h} {ts : List (PT h)}, PairR B h l r ts → ts.flatMap (Proofs.Ytohajcflklejjaa.ents h) = ents h l ++ ents h r
  | 0, l, r, ts, ⟨h1, _⟩ => by rw [flat_snd0, h1, pairL_flat]; rfl
  | h + 1, l, r, ts, ⟨h1, _⟩ => by
    rw [flat_snd, h1, pairL_flat]
    show (l.2 ++ r.2).flatMap _ = _
    rw [List.flatMap_append]; rfl
theorem map_len {α β : Type} {ts : List (β × α)} {L : List α} (h : ts.map Prod.snd = L) (hL : L.length = 1 ∨ L.length = 2) : ts.length = 1 ∨ ts.length = 2 := by
  subst h
  rwa [List.length_map] at hL
theorem PairR.len {B : Nat} : ∀ {h : Nat} {l r : PT h} {ts : List (PT h)}, PairR B h l r ts → ts.length = 1 ∨ ts.length = 2
  | 0, l, r, ts, ⟨h1, _⟩ => map_len h1 (pairL_len (α := Ent) _ _)
  | n + 1, l, r, ts, ⟨h1, _⟩ => map_len h1 (pairL_len (α := PT n) _ _)
theorem PairR.ok {B : Nat} : ∀ {h : Nat} {l r : PT h} {ts : List (PT h)}, PairR B h l r ts → OkT h l → OkT h r → (size h l = 3 ∧ 4 ≤ size h r) ∨ (4 ≤ size h l ∧ size h r = 3) → ∀ u ∈ ts, OkT h u ∧ 4 ≤ size h u
  | 0, l, r, ts, ⟨h1, _⟩, hl, hr, hs, u, hu => by
    have hm : u.2 ∈ pairL l.2 r.2 := by rw [← h1]; exact List.mem_map_of_mem hu
    have hl : l.2.length ≤ 8 := hl
    have hr : r.2.length ≤ 8 := hr
    have hs : (l.2.length = 3 ∧ 4 ≤ r.2.length) ∨ (4 ≤ l.2.length ∧ r.2.length = 3) := hs
    have := pairL_ok (by omega) _ hm
    exact ⟨this.2, this.1⟩
  | h + 1, l, r, ts, ⟨h1, _⟩, hl, hr, hs, u, hu => by
    have hm : u.2 ∈ pairL l.2 r.2 := by rw [← h1]; exact List.mem_map_of_mem hu
    have l8 : l.2.length ≤ 8 := hl.2.1
    have r8 : r.2.length ≤ 8 := hr.2.1
    have hs : (l.2.length = 3 ∧ 4 ≤ r.2.length) ∨ (4 ≤ l.2.length ∧ r.2.length = 3) := hs
    have := pairL_ok (by omega) _ hm
    refine ⟨⟨by omega, this.2, fun x hx => ?_⟩, this.1⟩
    rcases pairL_mem hm hx with hx | hx
    · exact hl.2.2 x hx
    · exact hr.2.2 x hx
def Mend (B h : Nat) (ks : List (PT h)) (i : Nat) (ks' : List (PT h)) : Prop :=
  ∃ l r ts, ks[i - 1]? = some l ∧ ks[i - 1 + 1]? = some r ∧ PairR B h l r ts ∧ ks' = ks.take (i - 1) ++ ts ++ ks.drop (i - 1 + 2)
def DelK (B : Nat) (k : ByteArray) (h : Nat) (R : PT h → PT h → Prop) (ks ks' : List (PT h)) : Prop :=
  ∃ kid kid', ks[whichK h ks k]? = some kid ∧ R kid kid' ∧
    ((4 ≤ size h kid' ∧ ks' = ks.set (whichK h ks k) kid') ∨ (size h kid' < 4 ∧ Mend B h (ks.set (whichK h ks k) kid') (whichK h ks k) ks'))
def DelR (B : Nat) (k : ByteArray) : (h : Nat) → PT h → PT h → Prop
  | 0, t, u => u.2 = delE t.2 k ∧ B ≤ u.1
  | h + 1, t, u => DelK B k h (DelR B k h) t.2 u.2 ∧ B ≤ u.1
theorem Mend.mono {A B : Nat} (hAB : A ≤ B) {h : Nat} {ks ks' : List (PT h)} {i : Nat} (hm : Mend B h ks i ks') : Mend A h ks i ks' := by
  obtain ⟨l, r, ts, h1, h2, h3, h4⟩ := hm
  exact ⟨l, r, ts, h1, h2, h3.mono hAB, h4⟩
theorem DelK.mono {A B : Nat} (hAB : A ≤ B) {k : ByteArray} {h : Nat} {R S : PT h → PT h → Prop} (hRS : ∀ x y, R x y → S x y) {ks ks' : List (PT h)} (hd : DelK B k h R ks ks') : DelK A k h S ks ks' := by
  obtain ⟨kid, kid', h1, h2, h3⟩ := hd
  exact ⟨kid, kid', h1, hRS _ _ h2, h3.imp_right fun ⟨a, b⟩ => ⟨a, b.mono hAB⟩⟩
theorem DelR.mono {A B : Nat} (hAB : A ≤ B) {k : ByteArray} : ∀ {h : Nat} {t u : PT h}, DelR B k h t u → DelR A k h t u
  | 0, _, _, ⟨h1, h2⟩ => ⟨h1, Nat.le_trans hAB h2⟩
  | _ + 1, _, _, ⟨h1, h2⟩ => ⟨h1.mono hAB fun _ _ hr => hr.mono hAB, Nat.le_trans hAB h2⟩
theorem set_mid {α : Type} {l : List α} {i : Nat} {x y : α} (h : l[i]? = some x) : l.set i y = l.take i ++ y :: l.drop (i + 1) := by
  rw [List.set_eq_take_append_cons_drop, if_pos (List.getElem?_eq_some_iff.1 h).1]
theorem two_mid {α : Type} {l : List α} {i : Nat} {x y : α} (h : l[i]? = some x) (h' : l[i + 1]? = some y) : l = l.take i ++ x :: y :: l.drop (i + 2) := by
  have e1 := take_mid h
  obtain ⟨hi, rfl⟩ := List.getElem?_eq_some_iff.1 h'
  rw [List.drop_eq_getElem_cons hi] at e1
  exact e1
theorem Mend.ents {B h : Nat} {ks ks' : List (PT h)} {i : Nat} (hm : Mend B h ks i ks') : ks'.flatMap (Proofs.Ytohajcflklejjaa.ents h) = ks.flatMap (Proofs.Ytohajcflklejjaa.ents h) := by
  obtain ⟨l, r, ts, h1, h2, h3, rfl⟩ := hm
  conv => rhs; rw [two_mid h1 h2]
  simp only [List.flatMap_append, List.flatMap_cons, h3.ents, List.append_assoc]
theorem getE_kid {h : Nat} {ks : List (PT h)} {k : ByteArray} {kid : PT h} (hk : ks[whichK h ks k]? = some kid) (hA : ∀ e ∈ (ks.take (whichK h ks k)).flatMap (ents h), klt e.1 k = true) (hC : ∀ e ∈ (ks.drop (whichK h ks k + 1)).flatMap (ents h), klt k e.1 = true) :
    getE (ks.flatMap (ents h)) k = getE (ents h kid) k := by
  conv => lhs; rw [take_mid hk]
  rw [List.flatMap_append, List.flatMap_cons, getE_app hA, getE_stop hC]
theorem DelK.ents {B : Nat} {k : ByteArray} {h : Nat} {R : PT h → PT h → Prop} {ks ks' : List (PT h)} (hd : DelK B k h R ks ks') (hs : Sorted (ks.flatMap (Proofs.Ytohajcflklejjaa.ents h))) (hp : ∀ x ∈ ks, 0 < (Proofs.Ytohajcflklejjaa.ents h x).length) (hne : 0 < ks.length)
    (hR : ∀ x y, x ∈ ks → R x y → Proofs.Ytohajcflklejjaa.ents h y = delE (Proofs.Ytohajcflklejjaa.ents h x) k) : ks'.flatMap (Proofs.Ytohajcflklejjaa.ents h) = delE (ks.flatMap (Proofs.Ytohajcflklejjaa.ents h)) k := by
  obtain ⟨kid, kid', hk, hr, h3⟩ := hd
  obtain ⟨kid2, hk2, hA, hC⟩ := which_split (h := h) (ks := ks) hs hp hne k
  rw [hk] at hk2
  simp only [Option.some.injEq] at hk2
  subst hk2
  have key : (ks.set (whichK h ks k) kid').flatMap (Proofs.Ytohajcflklejjaa.ents h) = delE (ks.flatMap (Proofs.Ytohajcflklejjaa.ents h)) k := by
    rw [set_mid hk]
    conv => rhs; rw [take_mid hk]
    simp only [List.flatMap_append, List.flatMap_cons]
    rw [hR kid kid' (List.mem_of_getElem? hk) hr, delE_app hA, delE_stop hC]
  rcases h3 with ⟨-, rfl⟩ | ⟨-, hm⟩
  · exact key
  · rw [hm.ents, key]
theorem DelR.ents {B : Nat} {k : ByteArray} : ∀ {h : Nat} {t u : PT h}, DelR B k h t u → OkT h t → Sorted (Proofs.Ytohajcflklejjaa.ents h t) → Proofs.Ytohajcflklejjaa.ents h u = delE (Proofs.Ytohajcflklejjaa.ents h t) k
  | 0, t, u, ⟨h1, _⟩, _, _ => h1
  | h + 1, t, u, ⟨h1, _⟩, ok, hs =>
    h1.ents hs (kids_pos ok) (by have := ok.1; omega) fun x y hx hr => hr.ents (ok.2.2 x hx).1 (kid_sorted hs x hx)
theorem delE_len : ∀ {es : List Ent} {k : ByteArray}, Sorted es → (getE es k).isSome = true → (delE es k).length + 1 = es.length
  | [], _, _, h => by cases h
  | e :: es, k, hs, h => by
    have hs' := List.pairwise_cons.1 hs
    simp only [delE]
    by_cases hk : e.1 = k
    · subst hk
      simp [klt_irrefl]
    · simp only [getE, hk, if_false] at h
      have hlt : klt e.1 k = true := by
        cases hg : getE es k with
        | none => rw [hg] at h; cases h
        | some v =>
          have : ∃ x ∈ es, x.1 = k := by
            clear hs hs' h hk
            induction es with
            | nil => cases hg
            | cons a es ih =>
              simp only [getE] at hg
              by_cases ha : a.1 = k
              · exact ⟨a, List.mem_cons_self .., ha⟩
              · simp only [ha, if_false] at hg
                obtain ⟨x, hx, e⟩ := ih hg
                exact ⟨x, List.mem_cons_of_mem _ hx, e⟩
          obtain ⟨x, hx, rfl⟩ := this
          exact hs'.1 x hx
      simp only [hlt, if_true, List.length_cons]
      rw [delE_len hs'.2 h]
theorem DelK.ok {B : Nat} {k : ByteArray} {h : Nat} {R : PT h → PT h → Prop} {ks ks' : List (PT h)} (hd : DelK B k h R ks ks') (hok : ∀ x ∈ ks, OkT h x ∧ 4 ≤ size h x) (h2 : 2 ≤ ks.length)
    (hR : ∀ x y, x ∈ ks → ks[whichK h ks k]? = some x → R x y → OkT h y ∧ size h x ≤ size h y + 1) : (∀ u ∈ ks', OkT h u ∧ 4 ≤ size h u) ∧ ks'.length ≤ ks.length ∧ ks.length ≤ ks'.length + 1 := by
  obtain ⟨kid, kid', hk, hr, h3⟩ := hd
  have hkm := List.mem_of_getElem? hk
  have hi := (List.getElem?_eq_some_iff.1 hk).1
  obtain ⟨o1, o2⟩ := hR kid kid' hkm hk hr
  have o4 := (hok kid hkm).2
  have hset : ∀ u ∈ ks.set (whichK h ks k) kid', u = kid' ∨ (OkT h u ∧ 4 ≤ size h u) := fun u hu => by
    rcases List.mem_or_eq_of_mem_set hu with hu | hu
    · exact .inr (hok u hu)
    · exact .inl hu
  rcases h3 with ⟨h4, rfl⟩ | ⟨h4, l, r, ts, hl, hr', hp, rfl⟩
  · refine ⟨fun u hu => ?_, by simp, by simp⟩
    rcases hset u hu with rfl | h
    · exact ⟨o1, h4⟩
    · exact h
  · generalize hI : whichK h ks k = i at *
    have hsz : size h kid' = 3 := by omega
    have hget : ∀ j, j ≠ i → ∀ x, (ks.set i kid')[j]? = some x → OkT h x ∧ 4 ≤ size h x := fun j hj x hx => by
      rw [List.getElem?_set_ne (by omega)] at hx
      exact hok x (List.mem_of_getElem? hx)
    have hgi : (ks.set i kid')[i]? = some kid' := by rw [List.getElem?_set_self hi]
    have hpair : OkT h l ∧ OkT h r ∧ ((size h l = 3 ∧ 4 ≤ size h r) ∨ (4 ≤ size h l ∧ size h r = 3)) := by
      by_cases h0 : i = 0
      · subst h0
        rw [hgi] at hl
        simp only [Option.some.injEq] at hl
        subst hl
        have := hget 1 (by omega) r hr'
        exact ⟨o1, this.1, .inl ⟨hsz, this.2⟩⟩
      · rw [show i - 1 + 1 = i from by omega, hgi] at hr'
        simp only [Option.some.injEq] at hr'
        subst hr'
        have := hget (i - 1) (by omega) l hl
        exact ⟨this.1, o1, .inr ⟨this.2, hsz⟩⟩
    have hts := hp.ok hpair.1 hpair.2.1 hpair.2.2
    have hln := hp.len
    refine ⟨fun u hu => ?_, ?_, ?_⟩
    · rcases List.mem_append.1 hu with hu | hu
      · rcases List.mem_append.1 hu with hu | hu
        · obtain ⟨j, hj⟩ := List.getElem?_of_mem hu
          rw [List.getElem?_take] at hj
          split at hj
          · exact hget j (by omega) u hj
          · cases hj
        · exact hts u hu
      · obtain ⟨j, hj⟩ := List.getElem?_of_mem hu
        rw [List.getElem?_drop] at hj
        exact hget _ (by omega) u hj
    · simp only [List.length_append, List.length_take, List.length_drop, List.length_set]; omega
    · simp only [List.length_append, List.length_take, List.length_drop, List.length_set]
      have := (List.getElem?_eq_some_iff.1 hr').1
      rw [List.length_set] at this
      omega
theorem DelR.ok {B : Nat} {k : ByteArray} : ∀ {h : Nat} {t u : PT h}, DelR B k h t u → OkT h t → 4 ≤ size h t → Sorted (Proofs.Ytohajcflklejjaa.ents h t) → (getE (Proofs.Ytohajcflklejjaa.ents h t) k).isSome = true → OkT h u ∧ size h t ≤ size h u + 1 ∧ size h u ≤ size h t
  | 0, t, u, ⟨h1, _⟩, ok, _, hs, hg => by
    have := delE_len hs hg
    have e : size 0 u = (delE (Proofs.Ytohajcflklejjaa.ents 0 t) k).length := by show u.2.length = _; rw [h1]; rfl
    have e2 : (Proofs.Ytohajcflklejjaa.ents 0 t).length = size 0 t := rfl
    have ok : size 0 t ≤ 8 := ok
    exact ⟨show size 0 u ≤ 8 by omega, by omega, by omega⟩
  | h + 1, t, u, ⟨h1, _⟩, ok, h4, hs, hg => by
    have h4 : 4 ≤ t.2.length := h4
    obtain ⟨a, b, c⟩ := h1.ok ok.2.2 ok.1 fun x y hx hxk hr => by
      obtain ⟨kid2, hk2, hA, hC⟩ := which_split (h := h) (ks := t.2) hs (kids_pos ok) (by omega) k
      rw [hxk] at hk2
      simp only [Option.some.injEq] at hk2
      subst hk2
      have := hr.ok (ok.2.2 x hx).1 (ok.2.2 x hx).2 (kid_sorted hs x hx) (by rw [← getE_kid hxk hA hC]; exact hg)
      exact ⟨this.1, this.2.1⟩
    have o8 := ok.2.1
    exact ⟨⟨by omega, by omega, a⟩, c, b⟩
theorem delE_none {es : List Ent} {k : ByteArray} (h : getE es k = none) : delE es k = es := by
  induction es with
  | nil => rfl
  | cons e es ih =>
    simp only [getE] at h
    by_cases hk : e.1 = k
    · simp [hk] at h
    · simp only [hk, if_false] at h
      simp only [delE, hk, if_false]
      split
      · rw [ih h]
      · rfl
end Go.Proofs.Ytohajcflklejjaa
namespace Go.Proofs.Ytohajcflklejjaa
open Go.RowKit
set_option linter.unusedVariables false
def numI (a b : Int) : Int := if a < b then -1 else if b < a then 1 else 0
def boolI (a b : Bool) : Int := if a = b then 0 else if b then -1 else 1
def textI (a b : ByteArray) : Int := if klt a b then -1 else if klt b a then 1 else 0
mutual
def cmpV : Val → Val → Int
  | .mk k b i t l ok ov, y =>
    if k ≠ y.kind then numI k y.kind else if k = 2 then boolI b y.b else if k = 3 then numI i y.i else if k = 4 then textI t y.t else if k = 5 then cmpL l y.l else if k = 6 then cmpM ov ok y.ok y.ov else 0
def cmpL : List Val → List Val → Int
  | [], m => if m.length = 0 then 0 else -1
  | _ :: _, [] => 1
  | a :: l, b :: m => if cmpV a b ≠ 0 then cmpV a b else cmpL l m
def cmpM : List Val → List ByteArray → List ByteArray → List Val → Int
  | [], _, _, m => if m.length = 0 then 0 else -1
  | _ :: _, _, _, [] => 1
  | a :: l, ka, kb, b :: m => if textI (ka.headD ByteArray.empty) (kb.headD ByteArray.empty) ≠ 0 then textI (ka.headD ByteArray.empty) (kb.headD ByteArray.empty) else if cmpV a b ≠ 0 then cmpV a b else cmpM l ka.tail kb.tail m
end
theorem numI_self (a : Int) : numI a a = 0 := by simp [numI]
theorem textI_self (a : ByteArray) : textI a a = 0 := by simp [textI, klt_irrefl]
theorem cmpV_self (m : Nat) : ∀ d : Val, SizeOf.sizeOf d ≤ m → cmpV d d = 0 := by
  induction m with
  | zero => intro d hd; have := Val.sz_pos d; omega
  | succ m ih =>
    intro d hd
    obtain ⟨k, b, i, t, l, ok, ov⟩ := d
    have hl : ∀ l' : List Val, SizeOf.sizeOf l' ≤ m → cmpL l' l' = 0 := by
      intro l'
      induction l' with
      | nil => intro _; simp [cmpL]
      | cons a l' ihl =>
        intro hs
        simp only [List.cons.sizeOf_spec] at hs
        simp only [cmpL]
        rw [ih a (by omega)]
        simpa using ihl (by omega)
    have ho : ∀ (l' : List Val) (kk : List ByteArray), SizeOf.sizeOf l' ≤ m → cmpM l' kk kk l' = 0 := by
      intro l'
      induction l' with
      | nil => intro kk _; simp [cmpM]
      | cons a l' ihl =>
        intro kk hs
        simp only [List.cons.sizeOf_spec] at hs
        simp only [cmpM]
        rw [ih a (by omega), textI_self]
        simpa using ihl kk.tail (by omega)
    simp only [Val.mk.sizeOf_spec] at hd
    simp only [cmpV, Val.kind, Val.b, Val.i, Val.t, Val.l, Val.ok, Val.ov]
    simp only [ne_eq, not_true_eq_false, if_false, numI_self, textI_self, hl l (by omega), ho ov ok (by omega), boolI, if_true]
    simp
theorem cmpV_refl (d : Val) : cmpV d d = 0 := cmpV_self _ d (Nat.le_refl _)
def sameE : List Ent → List Ent → Bool
  | [], [] => true
  | a :: l, b :: m => decide (a.1 = b.1) && decide (cmpV a.2 b.2 = 0) && sameE l m
  | _, _ => false
theorem sameE_refl : ∀ l : List Ent, sameE l l = true
  | [] => rfl
  | a :: l => by simp [sameE, cmpV_refl, sameE_refl l]
theorem sameE_len : ∀ {l m : List Ent}, sameE l m = true → l.length = m.length
  | [], [], _ => rfl
  | a :: l, b :: m, h => by
    simp only [sameE, Bool.and_eq_true] at h
    simp [sameE_len h.2]
  | [], _ :: _, h => by cases h
  | _ :: _, [], h => by cases h
end Go.Proofs.Ytohajcflklejjaa
namespace Go.Proofs.Ytohajcflklejjaa
open Go.RowKit
set_option linter.unusedVariables false
set_option linter.unusedSimpArgs false
section
variable {P : Program} (w : World)
theorem stepE_append_run {ops : Array Oper} {o : Oper} {a : Act} {K : Act → World → Prop} {Q : Exit → Act → World → Prop} {E : Prop} (hgd : o.guard = none) (d s : Operand) (t t' : TypeId)
    (ho : o.op = .call { callee := .builtin .append, args := #[d, s], argTypes := #[t, t'] }) (v u : Value) (hd : a.eval d = v) (hs : a.eval s = u) {v' : Value} {w' : World}
    (hr : (Builtin.append_ #[t, t'] o.type #[v, u]).run P w = .ok v' w') (h : K (a.put o.dst v') w') :
    if Region.wanted o (yielded ops a.tmps) = true then Oper.wp P o a w K Q else E := by
  have hw : Region.wanted o (yielded ops a.tmps) = true := by simp [Region.wanted, hgd]
  rw [if_pos hw]
  unfold Oper.wp execOp
  simp only [ho, resolve, invoke, builtin, Sem.run_bind, Sem.run_pure, Result.andThen_ok, List.map_toArray, List.map_cons, List.map_nil, hd, hs, hr]
  exact h
end
def DelPostE (base : Nat) (s : Sl) (n i : Nat) (xs : List Value) (w : World) (e : Ending) (w' : World) : Prop :=
  e = .returned (.slice s.a (n - 1) s.c) ∧ w'.ownsRow base 63 7 (.slice s.a (n - 1) s.c) (n - 1) (xs.take (i * 7) ++ xs.drop ((i + 1) * 7)) ∧ Wr w w' s.row
theorem zeroE (w : World) : (zeroValue 63).run Try.prog w = .ok (.agg #[.string ByteArray.empty, .int .i64 0, .bool false, .int .i64 0, .string ByteArray.empty, .slice none 0 0, .slice none 0 0]) w := by kernel_rfl
set_option maxRecDepth 100000 in
set_option maxHeartbeats 1000000 in
theorem delE_any {w : World} {base n i : Nat} {s : Sl} {xs : List Value} (hown : w.ownsRow base 63 7 (.slice s.a n s.c) n xs) (hn : n ≤ 1000) (hin : i < n) (h1 : ∀ u ∈ xs, u.oneCell' = true) :
    Calls Try.prog 59 #[.slice s.a n s.c, .int .i64 i, .int .i64 ((i : Int) + 1)] w (DelPostE base s n i xs w) := by
  obtain ⟨i0, hi, hz0, hz1, hz2⟩ := info_parts Try.infoEntry
  rcases hown.2 with ⟨hs, h0⟩ | ⟨g, cap, cur, hs, hbg, hg, hnc, hcm, hcs, htake⟩
  · omega
  simp only [Value.slice.injEq] at hs
  obtain ⟨ha, -, hc⟩ := hs
  have hs' : s = ⟨some ⟨g, 0, none⟩, cap⟩ := by cases s; simp_all
  have hxl := hown.1
  subst hs'
  clear hown ha hc
  have hic : i ≤ cap := by omega
  have hin' : (i : Int) < (n : Int) := by omega
  have hin1 : (i : Int) + 1 ≤ (n : Int) := by omega
  have hi0 : (0 : Int) ≤ (i : Int) := by omega
  have hib : (0 : Int) ≤ (i : Int) + 1 := by omega
  have hii : (i : Int) ≤ (i : Int) + 1 := by omega
  have hne : ((i : Int) == (i : Int) + 1) = false := beq_eq_false_iff_ne.2 (by omega)
  have hcm' : (cap : Int) ≤ 9223372036854775807 := by unfold maxLen at hcm; omega
  have hncI : (n : Int) ≤ (cap : Int) := by omega
  have htn : ((i : Int) + 1).toNat = i + 1 := by omega
  obtain ⟨news, hnews⟩ : ∃ news, news = xs.drop ((i + 1) * 7) := ⟨_, rfl⟩
  have hnl : news.length = (n - (i + 1)) * 7 := by rw [hnews, List.length_drop, hxl, ← Nat.sub_mul]
  have hn1 : ∀ u ∈ news, u.oneCell' = true := fun u hu => h1 u (List.mem_of_mem_drop (hnews ▸ hu))
  obtain ⟨A, hA, hsrc⟩ : ∃ A : Addr, (if cap = i + 1 then some (⟨g, 0, none⟩ : Addr) else some ⟨g, (i + 1) * 7, none⟩) = some A ∧ (∀ j u, news[j]? = some u → w.drew.cell? (A.add j) = some u) := by
    by_cases h : cap = i + 1
    · refine ⟨⟨g, 0, none⟩, by simp [h], fun t u hu => ?_⟩
      have h0 : news.length = 0 := by rw [hnl, show n - (i + 1) = 0 from by omega, Nat.zero_mul]
      rw [List.length_eq_zero_iff.1 h0] at hu
      simp at hu
    · refine ⟨⟨g, (i + 1) * 7, none⟩, by simp [h], fun j u hu => ?_⟩
      rw [add_at, World.cell?_drew, cell_of_row w g _ cur 63 (0, 0) hg]
      rw [hnews, List.getElem?_drop, ← htake, List.getElem?_take] at hu
      split at hu
      · simpa [Nat.add_comm, Nat.add_left_comm, Nat.add_assoc, Nat.mul_comm] using hu
      · cases hu
  obtain ⟨A1, hA1⟩ : ∃ A1, A1 = (cur.toList.take (i * 7) ++ news ++ cur.toList.drop (i * 7 + news.length)).toArray := ⟨_, rfl⟩
  have hfit : i * 7 + news.length ≤ cur.size := by rw [hnl, hcs]; omega
  have hs1 : A1.size = cur.size := by rw [hA1]; simp; omega
  obtain ⟨W1, hW1⟩ : ∃ W1, W1 = w.drew.setRow g A1 := ⟨_, rfl⟩
  have hap : ∀ ty, (Builtin.append_ #[22, 22] ty #[.slice (some ⟨g, 0, none⟩) i cap, .slice (some A) (n - (i + 1)) (cap - (i + 1))]).run Try.prog w.drew = .ok (.slice (some ⟨g, 0, none⟩) (n - 1) cap) W1 := fun ty => by
    have h := run_append_room (P := Try.prog) w.drew 22 ty 63 i0 Try.underlying22 hi g i cap cur hg A (n - (i + 1)) (cap - (i + 1)) news (by rw [hz1]; exact hnl) hsrc hn1 (by omega) (by rw [hz1]; exact hfit)
    rw [hz1] at h
    rw [hW1, hA1, h, show i + (n - (i + 1)) = n - 1 from by omega]
  have hg1 : W1.heap[g]? = some (.cells A1 63 (0, 0)) := by rw [hW1]; exact setRow_heap w.drew g cur A1 63 (0, 0) hg
  obtain ⟨Z, hZ⟩ : ∃ Z, Z = ((.agg #[.string ByteArray.empty, .int .i64 0, .bool false, .int .i64 0, .string ByteArray.empty, .slice none 0 0, .slice none 0 0]) : Value) := ⟨_, rfl⟩
  have hzv : ∀ w, (zeroValue 63).run Try.prog w = .ok Z w := fun w => by rw [hZ]; exact zeroE w
  obtain ⟨zs, hzs⟩ : ∃ zs, zs = (Builtin.zeroCells Z.cells 1).toList := ⟨_, rfl⟩
  have hzl : zs.length = 7 := by rw [hzs, Array.length_toList, size_zeroCells, hZ]; rfl
  have hz1c : ∀ u ∈ zs, u.oneCell' = true := by
    have : zs.all (·.oneCell') = true := by rw [hzs, hZ]; kernel_rfl
    exact fun u hu => List.all_eq_true.1 this u hu
  obtain ⟨A2, hA2⟩ : ∃ A2, A2 = (A1.toList.take ((n - 1) * 7) ++ zs ++ A1.toList.drop ((n - 1) * 7 + zs.length)).toArray := ⟨_, rfl⟩
  obtain ⟨W2, hW2⟩ : ∃ W2, W2 = W1.setRow g A2 := ⟨_, rfl⟩
  have hst := run_storeCells_at Try.prog g ((n - 1) * 7) 63 zs 0 A1 W1 hg1 (by rw [hzl, hs1, hcs]; omega) hz1c
  have hcl : ∀ ty c, (Builtin.clear_ #[22] ty #[.slice (some ⟨g, (n - 1) * 7, none⟩) 1 c]).run Try.prog W1 = .ok (.tuple #[]) W2 := fun ty c => by
    simp only [Nat.add_zero] at hst
    rw [← hA2, ← hW2] at hst
    rw [hzs] at hst
    simp [Builtin.clear_, run_underlying Try.underlying22, hzv, hst]
  have hg2 : W2.heap[g]? = some (.cells A2 63 (0, 0)) := by rw [hW2]; exact setRow_heap W1 g A1 A2 63 (0, 0) hg1
  have hwr : Wr w W2 (some g) := by
    rw [hW2, hW1]
    exact ((Wr.refl w (some g)).drew.trans (Wr.setRow w.drew A1) (fun i hi => .inl hi)).trans (Wr.setRow (w.drew.setRow g A1) A2) (fun i hi => .inl hi)
  have hfin : W2.ownsRow base 63 7 (.slice (some ⟨g, 0, none⟩) (n - 1) cap) (n - 1) (xs.take (i * 7) ++ xs.drop ((i + 1) * 7)) := by
    have ht : xs.take (i * 7) = cur.toList.take (i * 7) := by rw [← htake, List.take_take, Nat.min_eq_left (by omega)]
    refine ⟨by simp [hxl]; omega, .inr ⟨g, cap, A2, rfl, hbg, hg2, by omega, hcm, by rw [hA2]; simp; omega, ?_⟩⟩
    have hl2 : (cur.toList.take (i * 7) ++ news).length = (n - 1) * 7 := by rw [List.length_append, List.length_take, Array.length_toList, hnl]; omega
    rw [← hnews, ht, hA2]
    simp only [List.toList_toArray, List.append_assoc]
    rw [List.take_append_of_le_length (by rw [List.length_take, Array.length_toList]; omega), List.take_take, Nat.min_eq_left (by omega), hA1]
    simp only [List.toList_toArray]
    rw [List.take_append_of_le_length (by omega), List.take_of_length_le (by omega)]
  have HF := Lib.hid hfin
  have HW := Lib.hid hwr
  have HA := Lib.hid hA
  have hnm : ((n - 1 : Nat) : Int) < (n : Int) := by omega
  have hnm2 : ¬ cap = n - 1 := by omega
  have hnm3 : n - (n - 1) = 1 := by omega
  have hnm4 : ((n - 1 : Nat) : Int) ≤ (n : Int) := by omega
  clear hfin hwr hzv hZ hg2 hg1 hst hs1 hW2 hW1 hA2 hA1 hsrc hnl hn1 hnews hfit hg hcs htake h1 hxl hzl hz1c hzs
  go_enter Try.func59, Try.ntmps59
  go_wp2_with fail
  go_region_law (refine stepE_append_run _ rfl _ _ 22 22 rfl _ _ (by simp [Act.eval, Act.put]) (by simp [Act.eval, Act.put]) (hap _) ?_)
  go_wp2_with fail
  go_ret
  exact ⟨rfl, HF.out, HW.out⟩
end Go.Proofs.Ytohajcflklejjaa
namespace Go.Proofs.Ytohajcflklejjaa
open Go.RowKit
set_option linter.unusedVariables false
set_option linter.unusedSimpArgs false
section
variable {P : Program} (w : World)
theorem stepN_append_run {ops : Array Oper} {o : Oper} {a : Act} {K : Act → World → Prop} {Q : Exit → Act → World → Prop} {E : Prop} (hgd : o.guard = none) (d s : Operand) (t t' : TypeId)
    (ho : o.op = .call { callee := .builtin .append, args := #[d, s], argTypes := #[t, t'] }) (v u : Value) (hd : a.eval d = v) (hs : a.eval s = u) {v' : Value} {w' : World}
    (hr : (Builtin.append_ #[t, t'] o.type #[v, u]).run P w = .ok v' w') (h : K (a.put o.dst v') w') :
    if Region.wanted o (yielded ops a.tmps) = true then Oper.wp P o a w K Q else E := by
  have hw : Region.wanted o (yielded ops a.tmps) = true := by simp [Region.wanted, hgd]
  rw [if_pos hw]
  unfold Oper.wp execOp
  simp only [ho, resolve, invoke, builtin, Sem.run_bind, Sem.run_pure, Result.andThen_ok, List.map_toArray, List.map_cons, List.map_nil, hd, hs, hr]
  exact h
end
def DelPostN (base : Nat) (s : Sl) (n i : Nat) (xs : List Value) (w : World) (e : Ending) (w' : World) : Prop :=
  e = .returned (.slice s.a (n - 1) s.c) ∧ w'.ownsRow base 30 1 (.slice s.a (n - 1) s.c) (n - 1) (xs.take (i * 1) ++ xs.drop ((i + 1) * 1)) ∧ Wr w w' s.row
theorem zeroN (w : World) : (zeroValue 30).run Try.prog w = .ok (.pointer none) w := by kernel_rfl
set_option maxRecDepth 100000 in
set_option maxHeartbeats 1000000 in
theorem delN_any {w : World} {base n i : Nat} {s : Sl} {xs : List Value} (hown : w.ownsRow base 30 1 (.slice s.a n s.c) n xs) (hn : n ≤ 1000) (hin : i < n) (h1 : ∀ u ∈ xs, u.oneCell' = true) :
    Calls Try.prog 74 #[.slice s.a n s.c, .int .i64 i, .int .i64 ((i : Int) + 1)] w (DelPostN base s n i xs w) := by
  obtain ⟨i0, hi, hz0, hz1, hz2⟩ := info_parts Try.infoPNode
  rcases hown.2 with ⟨hs, h0⟩ | ⟨g, cap, cur, hs, hbg, hg, hnc, hcm, hcs, htake⟩
  · omega
  simp only [Value.slice.injEq] at hs
  obtain ⟨ha, -, hc⟩ := hs
  have hs' : s = ⟨some ⟨g, 0, none⟩, cap⟩ := by cases s; simp_all
  have hxl := hown.1
  subst hs'
  clear hown ha hc
  have hic : i ≤ cap := by omega
  have hin' : (i : Int) < (n : Int) := by omega
  have hin1 : (i : Int) + 1 ≤ (n : Int) := by omega
  have hi0 : (0 : Int) ≤ (i : Int) := by omega
  have hib : (0 : Int) ≤ (i : Int) + 1 := by omega
  have hii : (i : Int) ≤ (i : Int) + 1 := by omega
  have hne : ((i : Int) == (i : Int) + 1) = false := beq_eq_false_iff_ne.2 (by omega)
  have hcm' : (cap : Int) ≤ 9223372036854775807 := by unfold maxLen at hcm; omega
  have hncI : (n : Int) ≤ (cap : Int) := by omega
  have htn : ((i : Int) + 1).toNat = i + 1 := by omega
  obtain ⟨news, hnews⟩ : ∃ news, news = xs.drop ((i + 1) * 1) := ⟨_, rfl⟩
  have hnl : news.length = (n - (i + 1)) * 1 := by rw [hnews, List.length_drop, hxl, ← Nat.sub_mul]
  have hn1 : ∀ u ∈ news, u.oneCell' = true := fun u hu => h1 u (List.mem_of_mem_drop (hnews ▸ hu))
  obtain ⟨A, hA, hsrc⟩ : ∃ A : Addr, (if cap = i + 1 then some (⟨g, 0, none⟩ : Addr) else some ⟨g, i + 1, none⟩) = some A ∧ (∀ j u, news[j]? = some u → w.drew.cell? (A.add j) = some u) := by
    by_cases h : cap = i + 1
    · refine ⟨⟨g, 0, none⟩, by simp [h], fun t u hu => ?_⟩
      have h0 : news.length = 0 := by rw [hnl, show n - (i + 1) = 0 from by omega, Nat.zero_mul]
      rw [List.length_eq_zero_iff.1 h0] at hu
      simp at hu
    · refine ⟨⟨g, i + 1, none⟩, by simp [h], fun j u hu => ?_⟩
      rw [add_at, World.cell?_drew, cell_of_row w g _ cur 30 (0, 0) hg]
      rw [hnews, List.getElem?_drop, ← htake, List.getElem?_take] at hu
      split at hu
      · simpa [Nat.add_comm, Nat.add_left_comm, Nat.add_assoc, Nat.mul_comm] using hu
      · cases hu
  obtain ⟨A1, hA1⟩ : ∃ A1, A1 = (cur.toList.take (i * 1) ++ news ++ cur.toList.drop (i * 1 + news.length)).toArray := ⟨_, rfl⟩
  have hfit : i * 1 + news.length ≤ cur.size := by rw [hnl, hcs]; omega
  have hs1 : A1.size = cur.size := by rw [hA1]; simp; omega
  obtain ⟨W1, hW1⟩ : ∃ W1, W1 = w.drew.setRow g A1 := ⟨_, rfl⟩
  have hap : ∀ ty, (Builtin.append_ #[66, 66] ty #[.slice (some ⟨g, 0, none⟩) i cap, .slice (some A) (n - (i + 1)) (cap - (i + 1))]).run Try.prog w.drew = .ok (.slice (some ⟨g, 0, none⟩) (n - 1) cap) W1 := fun ty => by
    have h := run_append_room (P := Try.prog) w.drew 66 ty 30 i0 Try.underlying66 hi g i cap cur hg A (n - (i + 1)) (cap - (i + 1)) news (by rw [hz1]; exact hnl) hsrc hn1 (by omega) (by rw [hz1]; exact hfit)
    rw [hz1] at h
    rw [hW1, hA1, h, show i + (n - (i + 1)) = n - 1 from by omega]
  have hg1 : W1.heap[g]? = some (.cells A1 30 (0, 0)) := by rw [hW1]; exact setRow_heap w.drew g cur A1 30 (0, 0) hg
  obtain ⟨Z, hZ⟩ : ∃ Z, Z = ((.pointer none) : Value) := ⟨_, rfl⟩
  have hzv : ∀ w, (zeroValue 30).run Try.prog w = .ok Z w := fun w => by rw [hZ]; exact zeroN w
  obtain ⟨zs, hzs⟩ : ∃ zs, zs = (Builtin.zeroCells Z.cells 1).toList := ⟨_, rfl⟩
  have hzl : zs.length = 1 := by rw [hzs, Array.length_toList, size_zeroCells, hZ]; rfl
  have hz1c : ∀ u ∈ zs, u.oneCell' = true := by
    have : zs.all (·.oneCell') = true := by rw [hzs, hZ]; kernel_rfl
    exact fun u hu => List.all_eq_true.1 this u hu
  obtain ⟨A2, hA2⟩ : ∃ A2, A2 = (A1.toList.take (n - 1) ++ zs ++ A1.toList.drop (n - 1 + zs.length)).toArray := ⟨_, rfl⟩
  obtain ⟨W2, hW2⟩ : ∃ W2, W2 = W1.setRow g A2 := ⟨_, rfl⟩
  have hst := run_storeCells_at Try.prog g (n - 1) 30 zs 0 A1 W1 hg1 (by rw [hzl, hs1, hcs]; omega) hz1c
  have hcl : ∀ ty c, (Builtin.clear_ #[66] ty #[.slice (some ⟨g, n - 1, none⟩) 1 c]).run Try.prog W1 = .ok (.tuple #[]) W2 := fun ty c => by
    simp only [Nat.add_zero] at hst
    rw [← hA2, ← hW2] at hst
    rw [hzs] at hst
    simp [Builtin.clear_, run_underlying Try.underlying66, hzv, hst]
  have hg2 : W2.heap[g]? = some (.cells A2 30 (0, 0)) := by rw [hW2]; exact setRow_heap W1 g A1 A2 30 (0, 0) hg1
  have hwr : Wr w W2 (some g) := by
    rw [hW2, hW1]
    exact ((Wr.refl w (some g)).drew.trans (Wr.setRow w.drew A1) (fun i hi => .inl hi)).trans (Wr.setRow (w.drew.setRow g A1) A2) (fun i hi => .inl hi)
  have hfin : W2.ownsRow base 30 1 (.slice (some ⟨g, 0, none⟩) (n - 1) cap) (n - 1) (xs.take (i * 1) ++ xs.drop ((i + 1) * 1)) := by
    have ht : xs.take (i * 1) = cur.toList.take (i * 1) := by rw [← htake, List.take_take, Nat.min_eq_left (by omega)]
    refine ⟨by simp [hxl]; omega, .inr ⟨g, cap, A2, rfl, hbg, hg2, by omega, hcm, by rw [hA2]; simp; omega, ?_⟩⟩
    have hl2 : (cur.toList.take (i * 1) ++ news).length = (n - 1) * 1 := by rw [List.length_append, List.length_take, Array.length_toList, hnl]; omega
    rw [← hnews, ht, hA2]
    simp only [List.toList_toArray, List.append_assoc]
    rw [List.take_append_of_le_length (by rw [List.length_take, Array.length_toList]; omega), List.take_take, Nat.min_eq_left (by omega), hA1]
    simp only [List.toList_toArray]
    rw [List.take_append_of_le_length (by omega), List.take_of_length_le (by omega)]
  have HF := Lib.hid hfin
  have HW := Lib.hid hwr
  have HA := Lib.hid hA
  have hnm : ((n - 1 : Nat) : Int) < (n : Int) := by omega
  have hnm2 : ¬ cap = n - 1 := by omega
  have hnm3 : n - (n - 1) = 1 := by omega
  have hnm4 : ((n - 1 : Nat) : Int) ≤ (n : Int) := by omega
  clear hfin hwr hzv hZ hg2 hg1 hst hs1 hW2 hW1 hA2 hA1 hsrc hnl hn1 hnews hfit hg hcs htake h1 hxl hzl hz1c hzs
  go_enter Try.func74, Try.ntmps74
  go_wp2_with fail
  go_region_law (refine stepN_append_run _ rfl _ _ 66 66 rfl _ _ (by simp [Act.eval, Act.put]) (by simp [Act.eval, Act.put]) (hap _) ?_)
  go_wp2_with fail
  go_ret
  exact ⟨rfl, HF.out, HW.out⟩
end Go.Proofs.Ytohajcflklejjaa
namespace Go.Proofs.Ytohajcflklejjaa
open Go.RowKit
structure St (H : Nat → Prop) (w w' : World) : Prop where
  os : w'.os = w.os
  tape : w'.tape = w.tape
  output : w'.output = w.output
  size : w.heap.size ≤ w'.heap.size
  block : ∀ b, b < w.heap.size → ¬ H b → w'.heap[b]? = w.heap[b]?
  fz : ∀ b o, w'.frozen? ⟨b, o, none⟩ = w.frozen? ⟨b, o, none⟩
theorem Ext.fz {w w' : World} (h : Ext w w') (b o : Nat) : w'.frozen? ⟨b, o, none⟩ = w.frozen? ⟨b, o, none⟩ := by
  by_cases hl : b < w.heap.size
  · exact h.frozen hl
  · rw [h.free _ _ (by omega), frozen_none (by omega)]
theorem Ext.st {w w' : World} (h : Ext w w') (H : Nat → Prop) : St H w w' := ⟨h.below.os, h.below.tape, h.below.output, h.size, fun _ hb _ => h.heap hb, h.fz⟩
theorem St.refl (H : Nat → Prop) (w : World) : St H w w := (Ext.refl w).st H
theorem Wr.st {w w' : World} {row : Option Nat} (h : Wr w w' row) {H : Nat → Prop} (hr : ∀ i, row = some i → H i) : St H w w' :=
  ⟨h.grown.os, h.grown.tape, h.grown.output, h.grown.size, fun b hb hn => h.grown.block b hb fun e => hn (hr b e.symm), h.fz⟩
theorem St.trans {H : Nat → Prop} {a b c : World} (h : St H a b) (k : St H b c) : St H a c :=
  ⟨k.os.trans h.os, k.tape.trans h.tape, k.output.trans h.output, Nat.le_trans h.size k.size, fun i hi hn => (k.block i (Nat.lt_of_lt_of_le hi h.size) hn).trans (h.block i hi hn), fun b o => (k.fz b o).trans (h.fz b o)⟩
theorem St.mono {H G : Nat → Prop} {a b : World} (h : St H a b) (hG : ∀ i, i < a.heap.size → H i → G i) : St G a b :=
  ⟨h.os, h.tape, h.output, h.size, fun i hi hn => h.block i hi fun hh => hn (hG i hi hh), h.fz⟩
theorem St.ext_of {H : Nat → Prop} {w w' : World} (h : St H w w') (hH : ∀ b, b < w.heap.size → ¬ H b) : Ext w w' :=
  ⟨⟨h.os, h.tape, h.output, h.size, fun b hb => h.block b hb (hH b hb)⟩, fun b o hb => (h.fz b o).trans (frozen_none hb)⟩
theorem Ext.step {a w w' : World} {H : Nat → Prop} (h : Ext a w) (k : St H w w') (hH : ∀ b, H b → a.heap.size ≤ b) : Ext a w' :=
  (St.trans (h.st H) k).ext_of fun b hb hh => by have := hH b hh; omega
theorem St.ext {H : Nat → Prop} {a b c : World} (h : St H a b) (k : Ext b c) : St H a c := h.trans (k.st H)
theorem St.set {H : Nat → Prop} {a w : World} (h : St H a w) {p : Addr} (hp : a.heap.size ≤ p.block ∨ H p.block) (u : Value) : St H a (w.setCell p u) :=
  ⟨h.os, h.tape, h.output, by simpa [World.setCell] using h.size, fun i hi hn => (Below.heap_setCell w p u i (by
    rintro rfl
    rcases hp with hp | hp
    · omega
    · exact hn hp)).trans (h.block i hi hn), fun b o => by rw [World.frozen?_setCell]; exact h.fz b o⟩
theorem St.heap {H : Nat → Prop} {w w' : World} (h : St H w w') {b : Nat} (hb : b < w.heap.size) (hn : ¬ H b) : w'.heap[b]? = w.heap[b]? := h.block b hb hn
theorem St.cell {H : Nat → Prop} {w w' : World} (h : St H w w') {b o : Nat} (hb : b < w.heap.size) (hn : ¬ H b) : w'.cell? ⟨b, o, none⟩ = w.cell? ⟨b, o, none⟩ :=
  World.cell?_of_block (w := w) (a := ⟨b, o, none⟩) (h.block b hb hn)
theorem St.drewN {H : Nat → Prop} {a w : World} (h : St H a w) (n : Nat) : St H a (w.drewN n) := h.ext ((Ext.refl w).drewN n)
theorem St.drew {H : Nat → Prop} {a w : World} (h : St H a w) : St H a w.drew := h.ext ((Ext.refl w).drew)
theorem St.alloc {H : Nat → Prop} {a w : World} (h : St H a w) (c : Array Value) (t : TypeId) : St H a (w.alloc (.cells c t)) := h.ext ((Ext.refl w).alloc c t)
theorem St.blk {H : Nat → Prop} {w w' : World} {g : Nat} {t : TypeId} {cs : Array Value} (h : St H w w') (hb : Blk w g t cs) (hn : ¬ H g) : Blk w' g t cs := (h.block g hb.lt hn).trans hb
abbrev NH (H : Nat → Prop) (w : World) : Nat → Prop := fun b => b < w.heap.size ∧ ¬ H b
theorem St.agree {H : Nat → Prop} {w w' : World} (h : St H w w') : Agree (NH H w) w w' := fun b hb => h.block b hb.1 hb.2
theorem NH.lt {H : Nat → Prop} {w : World} {b : Nat} (h : NH H w b) : Lt w.heap.size b := h.1
end Go.Proofs.Ytohajcflklejjaa
namespace Go.Proofs.Ytohajcflklejjaa
open Go.RowKit
set_option linter.unusedVariables false
set_option linter.unusedSimpArgs false
theorem pos_split (es : List Ent) (k : ByteArray) (hs : Sorted es) : (∀ e ∈ es.take (posE es k), klt e.1 k = true) ∧ (∀ e ∈ es.drop (posE es k), klt e.1 k = false) := by
  have e1 : es.take (posE es k) = es.takeWhile fun e => klt e.1 k := (List.prefix_iff_eq_take.1 (List.takeWhile_prefix (l := es) (fun e : Ent => klt e.1 k))).symm
  have e2 : es.drop (posE es k) = es.dropWhile fun e => klt e.1 k := by
    have h1 := List.take_append_drop (posE es k) es
    rw [e1] at h1
    have h2 := List.takeWhile_append_dropWhile (p := fun e : Ent => klt e.1 k) (l := es)
    exact List.append_cancel_left (h1.trans h2.symm)
  refine ⟨fun e he => ?_, fun e he => ?_⟩
  · rw [e1] at he
    exact List.all_eq_true.1 (List.all_takeWhile (l := es) (p := fun e : Ent => klt e.1 k)) e he
  · have hsd : Sorted (es.drop (posE es k)) := List.Pairwise.sublist (List.drop_sublist _ _) hs
    rw [e2] at he hsd
    cases hd : es.dropWhile fun e => klt e.1 k with
    | nil => rw [hd] at he; cases he
    | cons x xs =>
      rw [hd] at he hsd
      have hx : klt x.1 k = false := by
        have := List.head?_dropWhile_not (fun e : Ent => klt e.1 k) es
        rw [hd] at this
        simpa using this
      rcases List.mem_cons.1 he with rfl | he
      · exact hx
      · have := (List.pairwise_cons.1 hsd).1 e he
        cases hc : klt e.1 k
        · rfl
        · rw [klt_trans this hc] at hx; cases hx
theorem getE_pos {es : List Ent} (hs : Sorted es) (k : ByteArray) : getE es k = (es[posE es k]?).bind fun e => if e.1 = k then some e.2 else none := by
  obtain ⟨hA, hB⟩ := pos_split es k hs
  have hsd : Sorted (es.drop (posE es k)) := List.Pairwise.sublist (List.drop_sublist _ _) hs
  conv => lhs; rw [← List.take_append_drop (posE es k) es]
  rw [getE_app hA, ← Nat.add_zero (posE es k), ← List.getElem?_drop, Nat.add_zero]
  cases hd : es.drop (posE es k) with
  | nil => rfl
  | cons x xs =>
    rw [hd] at hsd hB
    simp only [List.getElem?_cons_zero, Option.bind_some, getE]
    by_cases hx : x.1 = k
    · simp [hx]
    · simp only [hx, if_false]
      refine getE_none fun e he => ?_
      have h1 := klt_of_not (hB x (List.mem_cons_self ..)) hx
      have h2 := klt_trans h1 ((List.pairwise_cons.1 hsd).1 e he)
      rintro rfl
      rw [klt_irrefl] at h2; cases h2
theorem delE_pos {es : List Ent} (hs : Sorted es) (k : ByteArray) : delE es k = if (es[posE es k]?).map Prod.fst = some k then es.take (posE es k) ++ es.drop (posE es k + 1) else es := by
  obtain ⟨hA, hB⟩ := pos_split es k hs
  conv => lhs; rw [← List.take_append_drop (posE es k) es]
  rw [delE_app hA, delE_at hB, List.head?_drop, List.tail_drop]
  split
  · rfl
  · rw [List.take_append_drop]
def GetPost (o : Option Val) (w : World) (e : Ending) (w' : World) : Prop :=
  ∃ sl so, e = .returned (.tuple #[aggV (o.getD zeroV) sl so, .bool o.isSome]) ∧ Ext w w' ∧ RV w' (In w.heap.size w'.heap.size) (o.getD zeroV) sl so
set_option maxRecDepth 100000 in
/-- The closure of get. -/
theorem get1_any {W : World} {nv : Value} {b1 b2 : Nat} {k k' : ByteArray} {v : Val} {i : Nat} (h1 : W.cell? ⟨b1, 0, none⟩ = some nv) (h2 : W.cell? ⟨b2, 0, none⟩ = some (.string k))
    (hp : ∃ p, nv = .pointer p) (hc : Calls Try.prog 63 #[nv, .int .i64 i] W (EntryPost k' v W)) :
    Calls Try.prog 62 #[.int .i64 i, .pointer (some ⟨b1, 0, none⟩), .pointer (some ⟨b2, 0, none⟩)] W fun e w' => e = .returned (.bool !(klt k' k)) ∧ Ext W w' := by
  obtain ⟨p, rfl⟩ := hp
  have hb2 := World.block_lt_of_cell? W _ h2
  go_enter Try.func62, Try.ntmps62
  go_wp2_with fail
  refine hc.mono ?_
  rintro e w1 ⟨sl, so, rfl, hx, -⟩
  have q2 := (hx.cell hb2).trans h2
  have l2 : b2 < w1.heap.size := Nat.lt_of_lt_of_le hb2 hx.size
  have HX := Lib.hid hx
  clear hc hx h2
  go_wp2
  go_ret
  exact ⟨rfl, HX.out.alloc _ _⟩
structure GetS (w : World) (nv : Value) (k : ByteArray) (W : World) : Prop where
  ext : Ext w W
  b0 : Blk W w.heap.size 30 #[nv]
  b1 : Blk W (w.heap.size + 1) 9 #[.string k]
  b2 : Blk W (w.heap.size + 1 + 1) 51 #[.int .i64 0, .bool false, .int .i64 0, .string ByteArray.empty, .slice none 0 0, .slice none 0 0]
theorem GetS.step {w W W' : World} {nv : Value} {k : ByteArray} (h : GetS w nv k W) (he : Ext W W') : GetS w nv k W' := ⟨h.ext.trans he, h.b0.ext he, h.b1.ext he, h.b2.ext he⟩
theorem entry_nil (w : World) (i : Int) : Calls Try.prog 63 #[.pointer none, .int .i64 i] w fun e w' => e = .returned (.tuple #[aggE ByteArray.empty zeroV Sl.none Sl.none, .bool false]) ∧ Ext w w' := by
  go_enter Try.func63, Try.ntmps63
  go_wp2_with fail
  refine bodyPost_ret (v := .tuple #[aggE ByteArray.empty zeroV Sl.none Sl.none, .bool false]) (by simp [results, Try.results63, go_sem]; exact ⟨rfl, rfl, rfl, rfl, rfl, rfl, rfl⟩) rfl ⟨rfl, (Ext.refl w).alloc _ _⟩
set_option maxRecDepth 100000 in
set_option maxHeartbeats 1000000 in
theorem get_leaf {w : World} {nv : Value} {es : List Ent} (hp : ∃ p, nv = .pointer p) (hh : ∀ W, Ext w W → Calls Try.prog 32 #[nv] W fun e w' => e = .returned (.int .i64 0) ∧ W = w')
    (hz : ∀ W, Ext w W → Calls Try.prog 35 #[nv] W fun e w' => e = .returned (.int .i64 es.length) ∧ ∃ q, w' = W.drewN q)
    (he : ∀ W, Ext w W → ∀ (i : Nat) (e : Ent), es[i]? = some e → Calls Try.prog 63 #[nv, .int .i64 i] W (EntryPost e.1 e.2 W))
    (hno : ∀ W, Ext w W → ∀ i : Nat, es.length ≤ i → Calls Try.prog 63 #[nv, .int .i64 i] W fun e w' => e = .returned (.tuple #[aggE ByteArray.empty zeroV Sl.none Sl.none, .bool false]) ∧ Ext W w')
    (hs : Sorted es) (hl : es.length ≤ 1000) (k : ByteArray) : Calls Try.prog 42 #[nv, .string k] w (GetPost (getE es k) w) := by
  have HH := Lib.hid hh
  have HZ := Lib.hid hz
  have HE := Lib.hid he
  have HNO := Lib.hid hno
  have HS := Lib.hid hs
  obtain ⟨pp, rfl⟩ := hp
  clear hh hz he hno hs
  have hsr : ∀ W, GetS w (.pointer pp) k W → Calls Try.prog 61 #[.int .i64 es.length, .func (.func 62) #[] #[.pointer (some ⟨w.heap.size, 0, none⟩), .pointer (some ⟨w.heap.size + 1, 0, none⟩)]] W (SearchPost es.length (fun i => !(klt ((es[i]?.map Prod.fst).getD ByteArray.empty) k)) W) := by
    intro W hW
    refine search_any 62 _ _ es.length _ W (enters_of Try.func62 (by kernel_rfl) rfl) (by omega) ?_ ?_
    · intro i W' hi hW'
      obtain ⟨x, hx⟩ : ∃ x, es[i]? = some x := ⟨_, List.getElem?_eq_getElem hi⟩
      rw [hx]
      have hS := hW.step hW'
      exact get1_any (hS.b0.cell 0) (hS.b1.cell 0) ⟨_, rfl⟩ (HE.out W' hS.ext i x hx)
    · intro i j hij hj hpi
      by_cases hij' : i = j
      · subst hij'; exact hpi
      · obtain ⟨x, hx⟩ : ∃ x, es[i]? = some x := ⟨_, List.getElem?_eq_getElem (by omega)⟩
        obtain ⟨y, hy⟩ : ∃ y, es[j]? = some y := ⟨_, List.getElem?_eq_getElem hj⟩
        have hxy := sorted_lt HS.out (i := i) (j := j) (by omega) hx hy
        rw [hx] at hpi; rw [hy]
        simp only [Option.map_some, Option.getD_some, Bool.not_eq_true'] at hpi ⊢
        cases hyk : klt y.1 k
        · rfl
        · have := klt_trans hxy hyk
          rw [hpi] at this; cases this
  go_enter Try.func42, Try.ntmps42
  go_wp2_with fail
  generalize hW0 : World.alloc _ _ = W0
  obtain ⟨hx0, hz0, hb0, hb1, hb2⟩ := three_blocks w _ _ _ _ _ _ W0 hW0
  have hS0 : GetS w (.pointer pp) k W0 := ⟨hx0, hb0, hb1, hb2⟩
  have HS0 := Lib.hid hS0
  have q0 : W0.cell? ⟨w.heap.size, 0, none⟩ = some (.pointer pp) := hb0.cell 0
  clear hW0 hb0 hb1 hb2 hS0
  refine (HH.out W0 hx0).mono ?_
  rintro e w1 ⟨rfl, rfl⟩
  go_wp2_with fail
  refine (HZ.out W0 hx0).mono ?_
  rintro e w1 ⟨rfl, q, rfl⟩
  go_wp2_with fail
  refine (hsr _ (HS0.out.step ((Ext.refl _).drewN q))).mono ?_
  rintro e w1 ⟨p, rfl, hp, hlo, hhi, he1⟩
  have hS1 := HS0.out.step (((Ext.refl _).drewN q).trans he1)
  have HS1 := Lib.hid hS1
  have r0 : w1.cell? ⟨w.heap.size, 0, none⟩ = some (.pointer pp) := hS1.b0.cell 0
  have hpos : posE es k = p := posE_of hp (fun i e hi he => by
      have : (!(klt ((es[i]?.map Prod.fst).getD ByteArray.empty) k)) = false := hlo i hi
      rw [he] at this
      simpa using this) (fun e he => by
      have : (!(klt ((es[p]?.map Prod.fst).getD ByteArray.empty) k)) = true := hhi p (Nat.le_refl _) (List.getElem?_eq_some_iff.1 he).1
      rw [he] at this
      simpa using this)
  have hget : getE es k = (es[p]?).bind fun e => if e.1 = k then some e.2 else none := by rw [getE_pos HS.out, hpos]
  have HG := Lib.hid hget
  clear hlo hhi hpos hsr he1 hS1 q0 hget hx0 hz0
  go_wp2_with fail
  by_cases hlt : p < es.length
  · obtain ⟨x, hx⟩ : ∃ x, es[p]? = some x := ⟨_, List.getElem?_eq_getElem hlt⟩
    have hc := HE.out w1 HS1.out.ext p x hx
    have HX := Lib.hid hx
    clear hx
    refine hc.mono ?_
    rintro e w2 ⟨sl, so, rfl, hx2, hrv⟩
    have hS2 := HS1.out.step hx2
    have HS2 := Lib.hid hS2
    have q1 : w2.cell? ⟨w.heap.size + 1, 0, none⟩ = some (.string k) := hS2.b1.cell 0
    obtain ⟨c0, c1, c2, c3, c4, c5⟩ := hS2.b2.c6
    have f2 := hS2.b2.frozen
    have l2 := hS2.b2.lt
    have l1 : w.heap.size + 1 < w2.heap.size := by omega
    have HRV := Lib.hid hrv
    clear hS2 hx2 hrv hc
    by_cases hk : x.1 = k
    · have hkb : (x.1.toList == k.toList) = true := by rw [beq_toList]; simpa using hk
      have hg : getE es k = some x.2 := by rw [HG.out, HX.out]; simp [hk]
      have HGG := Lib.hid hg
      clear hk hg
      go_wp2_with fail
      refine bodyPost_ret (v := .tuple #[aggV x.2 sl so, .bool true]) (by simp [results, Try.results42, go_sem, c0, c1, c2, c3, c4, c5, l2]) rfl ?_
      have hE := HS2.out.ext.putV (b := w.heap.size + 1 + 1) (by omega) 0 x.2 sl so
      have hr := (HRV.out.mono (G := In w.heap.size w2.heap.size) fun i hi => ⟨Nat.le_trans HS1.out.ext.size hi.1, hi.2⟩)
      have hr2 : RV w2 (fun b => In w.heap.size w2.heap.size b ∧ b ≠ w.heap.size + 1 + 1) x.2 sl so := HRV.out.mono fun i hi => ⟨⟨Nat.le_trans HS1.out.ext.size hi.1, hi.2⟩, by have := HS1.out.b2.lt; have := hi.1; omega⟩
      have hr3 := hr2.agree (putV_agree w2 (w.heap.size + 1 + 1) 0 x.2 sl so (F := fun b => In w.heap.size w2.heap.size b ∧ b ≠ w.heap.size + 1 + 1) (fun h => h.2 rfl))
      refine ⟨sl, so, by rw [HGG.out]; rfl, hE.alloc _ _, ?_⟩
      rw [HGG.out]
      refine (hr3.agree (Agree.alloc _ _ (fun b hb => by rw [putV_size]; exact hb.1.2))).mono fun i hi => ⟨hi.1.1, ?_⟩
      have := hi.1.2
      simp; omega
    · have hkb : (x.1.toList == k.toList) = false := by rw [beq_toList]; simpa using hk
      have hg : getE es k = none := by rw [HG.out, HX.out]; simp [hk]
      have HGG := Lib.hid hg
      clear hk hg
      go_wp2_with fail
      refine bodyPost_ret (v := .tuple #[aggV zeroV Sl.none Sl.none, .bool false]) (by simp [results, Try.results42, go_sem, c0, c1, c2, c3, c4, c5, l2]; exact ⟨rfl, rfl, rfl, rfl, rfl, rfl⟩) rfl ?_
      have hE := HS2.out.ext.putV (b := w.heap.size + 1 + 1) (by omega) 0 zeroV Sl.none Sl.none
      exact ⟨Sl.none, Sl.none, by rw [HGG.out]; rfl, hE.alloc _ _, by rw [HGG.out]; exact RV.flat _ _ _ _ _ _ rfl rfl (by decide)⟩
  · have hnn : es[p]? = none := List.getElem?_eq_none (by omega)
    have hg : getE es k = none := by rw [HG.out, hnn]; rfl
    have hc := HNO.out w1 HS1.out.ext p (by omega)
    have HGG := Lib.hid hg
    clear hg hnn
    refine hc.mono ?_
    rintro e w2 ⟨rfl, hx2⟩
    have hS2 := HS1.out.step hx2
    have HS2 := Lib.hid hS2
    obtain ⟨c0, c1, c2, c3, c4, c5⟩ := hS2.b2.c6
    have f2 := hS2.b2.frozen
    have l2 := hS2.b2.lt
    clear hS2 hx2 hc
    go_wp2_with fail
    refine bodyPost_ret (v := .tuple #[aggV zeroV Sl.none Sl.none, .bool false]) (by simp [results, Try.results42, go_sem, c0, c1, c2, c3, c4, c5, l2]; exact ⟨rfl, rfl, rfl, rfl, rfl, rfl⟩) rfl ?_
    have hE := HS2.out.ext.putV (b := w.heap.size + 1 + 1) (by omega) 0 zeroV Sl.none Sl.none
    exact ⟨Sl.none, Sl.none, by rw [HGG.out]; rfl, hE.alloc _ _, by rw [HGG.out]; exact RV.flat _ _ _ _ _ _ rfl rfl (by decide)⟩
theorem get_nil (w : World) (k : ByteArray) : Calls Try.prog 42 #[.pointer none, .string k] w (GetPost none w) :=
  get_leaf (es := []) ⟨_, rfl⟩ (fun W _ => height_nil W) (fun W _ => (size_nil W).mono fun e w' ⟨h1, h2⟩ => ⟨h1, 0, h2.symm⟩) (fun W _ i e h => by simp at h) (fun W _ i _ => entry_nil W i) List.Pairwise.nil (by simp) k
theorem get_zero {w : World} {t : PT 0} (hn : IsN w (Lt w.heap.size) 0 t) (ok : OkT 0 t) (hs : Sorted (ents 0 t)) (k : ByteArray) : Calls Try.prog 42 #[ptr 0 t, .string k] w (GetPost (getE (ents 0 t) k) w) := by
  have ok8 : (ents 0 t).length ≤ 8 := ok
  exact get_leaf ⟨_, rfl⟩ (fun W hW => height_any (hn.ext hW)) (fun W hW => size_any (hn.ext hW) (Nat.le_trans ok8 (by decide))) (fun W hW i e h => entry_any (hn.ext hW) h) (fun W hW i h => entry_none (hn.ext hW) (.inr (Int.ofNat_le.2 h))) hs (Nat.le_trans ok8 (by decide)) k
set_option maxRecDepth 100000 in
set_option maxHeartbeats 1000000 in
theorem get_succ {h : Nat} {k : ByteArray}
    (ih : ∀ (w : World) (F : Nat → Prop) (t : PT h), (∀ b, F b → b < w.heap.size) → IsN w F h t → OkT h t → Sorted (ents h t) → (ents h t).length ≤ 1000000 → Calls Try.prog 42 #[ptr h t, .string k] w (GetPost (getE (ents h t) k) w))
    {w : World} {F : Nat → Prop} {t : PT (h + 1)} (hF : ∀ b, F b → b < w.heap.size) (hn : IsN w F (h + 1) t) (ok : OkT (h + 1) t) (hs : Sorted (ents (h + 1) t)) (hc : (ents (h + 1) t).length ≤ 1000000) :
    Calls Try.prog 42 #[ptr (h + 1) t, .string k] w (GetPost (getE (ents (h + 1) t) k) w) := by
  have hpos := kids_pos ok
  have hh : h + 1 < 1000000 := Nat.lt_of_lt_of_le (height_lt (h + 1) t ok (by have := ok.1; show 1 ≤ t.2.length; omega)) hc
  obtain ⟨kid, hkid, hA, hC⟩ := which_split (h := h) (ks := t.2) hs hpos (by have := ok.1; omega) k
  have hkm' := List.mem_of_getElem? hkid
  have hil := (List.getElem?_eq_some_iff.1 hkid).1
  have hlen8 := ok.2.1
  have hks : ∀ x ∈ t.2, IsN w F h x := hn.2.choose_spec.2.2
  have hkc : (ents h kid).length ≤ 1000000 := Nat.le_trans (by
    show _ ≤ (t.2.flatMap (ents h)).length
    rw [take_mid hkid]; simp only [List.flatMap_append, List.flatMap_cons, List.length_append]; omega) hc
  have hge : getE (ents (h + 1) t) k = getE (ents h kid) k := getE_kid hkid hA hC
  rw [hge]
  have hih : ∀ W, Ext w W → Calls Try.prog 42 #[ptr h kid, .string k] W (GetPost (getE (ents h kid) k) W) := fun W hW =>
    ih W F kid (fun b hb => Nat.lt_of_lt_of_le (hF b hb) hW.size) ((hks kid hkm').agree (hW.agree hF)) (ok.2.2 kid hkm').1 (kid_sorted hs kid hkm') hkc
  generalize getE (ents h kid) k = og at *
  clear hge
  have HF := Lib.hid hF
  have HN := Lib.hid hn
  have HS := Lib.hid hs
  have HP := Lib.hid hpos
  have HIH := Lib.hid hih
  have HKS := Lib.hid hks
  have HKID := Lib.hid hkid
  have hgt : (0 : Int) < (h : Int) + 1 := by omega
  clear hF hn ok hs hc hpos hih hks hkid hA hC ih hkc
  go_enter Try.func42, Try.ntmps42
  go_wp2_with fail
  generalize hW0 : World.alloc _ _ = W0
  obtain ⟨hx0, hz0, hb0, hb1, hb2⟩ := three_blocks w _ _ _ _ _ _ W0 hW0
  have hS0 : GetS w (ptr (h + 1) t) k W0 := ⟨hx0, hb0, hb1, hb2⟩
  have HS0 := Lib.hid hS0
  have q0 : W0.cell? ⟨w.heap.size, 0, none⟩ = some (ptr (h + 1) t) := hb0.cell 0
  clear hW0 hb0 hb1 hb2 hS0
  have hnW : IsN W0 F (h + 1) t := HN.out.agree (hx0.agree HF.out)
  refine (height_any hnW).mono ?_
  rintro e w1 ⟨rfl, rfl⟩
  have hkc := kids_any hnW (by omega)
  clear hnW
  go_wp2_with fail
  refine hkc.mono ?_
  rintro e w1 ⟨s', rfl, hown, hx1⟩
  have hS1 := HS0.out.step hx1
  have HS1 := Lib.hid hS1
  have hrd : Rd w1 (Lt w1.heap.size) 1 s' t.2.length (ptrs h t.2) := (Rd.of_own hown).mono fun i hi => hi.2
  obtain ⟨g, cap, rfl, hbg, hnc, hcm, hfil⟩ := own_block hown (by omega)
  obtain ⟨i, hi⟩ : ∃ i, whichK h t.2 k = i := ⟨_, rfl⟩
  have hwh : ∀ W, Ext w1 W → Calls Try.prog 56 #[.slice (some ⟨g, 0, none⟩) t.2.length cap, .string k] W fun e w' => e = .returned (.int .i64 i) ∧ Ext W w' := fun W hW => by
    rw [← hi]
    exact which_any (s := ⟨some ⟨g, 0, none⟩, cap⟩) ((hrd.agree (hW.agree fun _ h => h)).mono fun i hi => Nat.lt_of_lt_of_le hi hW.size) (fun x hx => (HKS.out x hx).agree ((hS1.ext.trans hW).agree HF.out)) (fun b hb => Nat.lt_of_lt_of_le (HF.out b hb) (hS1.ext.trans hW).size) HP.out k HS.out (by omega)
  have hkid := HKID.out
  rw [hi] at hkid hil
  obtain ⟨b, o, hba, hbl, -, -, hbc⟩ := hrd.ptr_at hkid
  obtain ⟨rfl, rfl⟩ : g = b ∧ 0 = o := by simpa using hba
  have kc : w1.cell? ⟨g, i, none⟩ = some (ptr h kid) := by simpa using hbc
  have k1 : w1.cell? ⟨w.heap.size + 1, 0, none⟩ = some (.string k) := hS1.b1.cell 0
  have hg1 : g < w1.heap.size := hbl
  have hgn : ¬ g = w.heap.size + 1 + 1 := by omega
  have hgn' : ¬ w.heap.size + 1 + 1 = g := by omega
  clear hz0
  have l1 : w.heap.size + 1 < w1.heap.size := hS1.b1.lt
  have hii : (i : Int) < (t.2.length : Int) := by omega
  have hi0 : (0 : Int) ≤ (i : Int) := by omega
  have HWH := Lib.hid hwh
  have HHI := Lib.hid hi
  clear hwh hi hkid hbc hba hfil hown hrd hx1 hx0 hS1 hkc q0
  go_wp2_with fail
  go_region_held3 (fun w' => w'.cell? ⟨g, i, none⟩ = some (ptr h kid) ∧ w'.cell? ⟨w.heap.size + 1, 0, none⟩ = some (.string k)) (first | (with_reducible exact ⟨g3, k3⟩) | (with_reducible exact ⟨g2, k2⟩) | go_keep)
    (first
      | (go_at_call 56; refine (HWH.out _ ?_).mono ?_; (exact ((Ext.refl _).drew)); rintro e w2 ⟨rfl, hx2⟩; have g2 := (hx2.cell (o := i) hg1).trans kc; have k2 := (hx2.cell (o := 0) l1).trans k1; have hg2 := Nat.lt_of_lt_of_le hg1 hx2.size; have l2 := Nat.lt_of_lt_of_le l1 hx2.size)
      | (go_at_call 42; refine (HIH.out _ ?_).mono ?_; (exact HS1.out.ext.trans (((Ext.refl _).drew).trans hx2)); rintro e w3 ⟨sl, so, rfl, hx3, hrv⟩; have g3 := (hx3.cell (o := i) hg2).trans g2; have k3 := (hx3.cell (o := 0) l2).trans k2; have hS3 := HS1.out.step ((((Ext.refl _).drew).trans hx2).trans hx3); obtain ⟨c0, c1, c2, c3, c4, c5⟩ := hS3.b2.c6; have f3 := hS3.b2.frozen; have HS3 := Lib.hid hS3; have HX3 := Lib.hid hx3; have HRV := Lib.hid hrv; have HX2 := Lib.hid hx2; clear hS3 hx3 hrv hx2))
  go_wp2_with fail
  refine bodyPost_ret (v := .tuple #[aggV (og.getD zeroV) sl so, .bool og.isSome]) (by simp [results, Try.results42, go_sem, c0, c1, c2, c3, c4, c5]) rfl ?_
  have hE := HS3.out.ext.putV (b := w.heap.size + 1 + 1) (by omega) 0 (og.getD zeroV) sl so
  have hb2 := HS1.out.b2.lt
  have hX2 := HX2.out.size
  have hX3 := HX3.out.size
  have hE1 := HS1.out.ext.size
  rw [World.size_drew] at hX2
  have hr2 : RV w3 (fun b => In w.heap.size w3.heap.size b ∧ b ≠ w.heap.size + 1 + 1) (og.getD zeroV) sl so := HRV.out.mono fun i hi => ⟨⟨by have := hi.1; omega, hi.2⟩, by have := hi.1; omega⟩
  have hr3 := hr2.agree (putV_agree w3 (w.heap.size + 1 + 1) 0 (og.getD zeroV) sl so (F := fun b => In w.heap.size w3.heap.size b ∧ b ≠ w.heap.size + 1 + 1) (fun h => h.2 rfl))
  exact ⟨sl, so, rfl, hE, hr3.mono fun i hi => ⟨hi.1.1, by have := hi.1.2; simpa using this⟩⟩
theorem get_any {k : ByteArray} : ∀ (h : Nat) (w : World) (F : Nat → Prop) (t : PT h), (∀ b, F b → b < w.heap.size) → IsN w F h t → OkT h t → Sorted (ents h t) → (ents h t).length ≤ 1000000 → Calls Try.prog 42 #[ptr h t, .string k] w (GetPost (getE (ents h t) k) w)
  | 0, w, F, t, hF, hn, ok, hs, _ => get_zero (hn.mono hF) ok hs k
  | h + 1, w, F, t, hF, hn, ok, hs, hc => get_succ (fun w F t a b c d e => get_any h w F t a b c d e) hF hn ok hs hc
theorem getPost_end {w w3 : World} {b lo : Nat} {og : Option Val} {sl so : Sl} (hE : Ext w w3) (hb : w.heap.size ≤ b) (hlt : b < lo) (hr : RV w3 (In lo w3.heap.size) (og.getD zeroV) sl so) :
    GetPost og w (.returned (.tuple #[aggV (og.getD zeroV) sl so, .bool og.isSome])) (putV w3 b 0 (og.getD zeroV) sl so) := by
  refine ⟨sl, so, rfl, hE.putV hb _ _ _ _, ?_⟩
  rw [putV_size]
  exact (hr.agree (putV_agree w3 b 0 (og.getD zeroV) sl so (by omega))).mono fun i hi => ⟨by omega, hi.2⟩
theorem two_blocks (w : World) (t0 t1 : TypeId) (c0 c1 : Array Value) : ∀ W, (w.alloc (.cells c0 t0)).alloc (.cells c1 t1) = W →
    Ext w W ∧ W.heap.size = w.heap.size + 2 ∧ Blk W w.heap.size t0 c0 ∧ Blk W (w.heap.size + 1) t1 c1 := by
  rintro W rfl
  refine ⟨((Ext.refl w).alloc _ _).alloc _ _, by simp, (Blk.new w t0 c0).alloc _, ?_⟩
  have h := Blk.new (w.alloc (.cells c0 t0)) t1 c1
  rw [World.size_alloc] at h; exact h
theorem getR_any {w : World} {F : Nat → Prop} {T : RT} (hF : ∀ b, F b → b < w.heap.size) (hT : IsT w F T) (ok : OkR T) (hc : (entsT T).length ≤ 1000000) (k : ByteArray) :
    Calls Try.prog 42 #[rootV T, .string k] w (GetPost (getE (entsT T) k) w) := by
  match T, hT, ok, hc with
  | none, _, _, _ => exact get_nil w k
  | some ⟨h, t⟩, hT, ok, hc => exact get_any h w F t hF hT ok.1 ok.2.2 hc
set_option maxRecDepth 100000 in
set_option maxHeartbeats 400000 in
theorem treeGet_any {w : World} {F : Nat → Prop} {T : RT} (hF : ∀ b, F b → b < w.heap.size) (hT : IsT w F T) (ok : OkR T) (hc : (entsT T).length ≤ 1000000) (k : ByteArray) :
    Calls Try.prog 29 #[treeV T, .string k] w (GetPost (getE (entsT T) k) w) := by
  have hcw : ∀ W, Ext w W → Calls Try.prog 42 #[rootV T, .string k] W (GetPost (getE (entsT T) k) W) := fun W hW =>
    getR_any (fun b hb => Nat.lt_of_lt_of_le (hF b hb) hW.size) (hT.agree (hW.agree hF)) ok hc k
  generalize getE (entsT T) k = og at *
  have HW := Lib.hid hcw
  clear hF hT ok hcw
  go_enter Try.func29, Try.ntmps29
  go_wp2_with fail
  generalize hW0 : World.alloc _ _ = W0
  obtain ⟨hx0, hz0, -, hb1⟩ := two_blocks w _ _ _ _ W0 hW0
  have HZ := Lib.hid hz0
  have HX0 := Lib.hid hx0
  clear hW0 hz0
  refine (HW.out W0 hx0).mono ?_
  rintro e w1 ⟨sl, so, rfl, hx1, hrv⟩
  have hb := hb1.ext hx1
  obtain ⟨c0, c1, c2, c3, c4, c5⟩ := hb.c6
  have f2 := hb.frozen
  have HX1 := Lib.hid hx1
  have HRV := Lib.hid hrv
  clear hb hb1 hx1 hrv hx0
  go_wp2_with fail
  refine bodyPost_ret (v := .tuple #[aggV (og.getD zeroV) sl so, .bool og.isSome]) (by simp [results, Try.results29, go_sem, c0, c1, c2, c3, c4, c5]) rfl ?_
  exact getPost_end (HX0.out.trans HX1.out) (b := w.heap.size + 1) (lo := W0.heap.size) (by omega) (by rw [HZ.out]; omega) HRV.out
end Go.Proofs.Ytohajcflklejjaa
namespace Go.Proofs.Ytohajcflklejjaa
open Go.RowKit
set_option linter.unusedVariables false
inductive BuiltR : List Ent → RT → Prop
  | nil : BuiltR [] none
  | snoc {es : List Ent} {T T' : RT} {B : Nat} {k : ByteArray} {v : Val} (h : BuiltR es T) (hp : PutR B k v T T') : BuiltR (es ++ [(k, v)]) T'
def putAll (es : List Ent) (l : List Ent) : List Ent := l.foldl (fun m e => insE m e.1 e.2) es
theorem putAll_snoc (es l : List Ent) (e : Ent) : putAll es (l ++ [e]) = insE (putAll es l) e.1 e.2 := by simp [putAll]
theorem putAll_len (l : List Ent) : ∀ es : List Ent, (putAll es l).length ≤ es.length + l.length := by
  induction l with
  | nil => intro es; exact Nat.le_refl _
  | cons a l ih =>
    intro es
    have := ih (insE es a.1 a.2)
    have h2 := insE_len es a.1 a.2
    simp only [putAll, List.foldl_cons, List.length_cons] at *
    omega
theorem BuiltR.both {l : List Ent} {T : RT} (h : BuiltR l T) : (OkR T) ∧ entsT T = putAll [] l := by
  induction h with
  | nil => exact ⟨trivial, rfl⟩
  | snoc h hp ih => exact ⟨hp.ok ih.1, by rw [hp.ents ih.1, ih.2, putAll_snoc]⟩
theorem insE_last {es : List Ent} {k : ByteArray} {v : Val} (h : ∀ e ∈ es, klt e.1 k = true) : insE es k v = es ++ [(k, v)] := by
  have := insE_app h [] v
  rwa [List.append_nil] at this
theorem sorted_snoc {es : List Ent} {e : Ent} (h : Sorted (es ++ [e])) : Sorted es ∧ ∀ x ∈ es, klt x.1 e.1 = true := by
  have := sorted_app h
  exact ⟨this.1, fun x hx => this.2.2 x hx e (List.mem_singleton.2 rfl)⟩
theorem putR_leaf {B : Nat} {k : ByteArray} {v : Val} {t : PT 0} {T' : RT} (hp : PutR B k v (some ⟨0, t⟩) T') (h8 : (insE t.2 k v).length ≤ 8) : ∃ u : PT 0, T' = some ⟨0, u⟩ ∧ u.2 = insE t.2 k v := by
  have hch : chunk (insE t.2 k v) = [insE t.2 k v] := by simp [chunk, h8]
  cases hp with
  | one hw =>
    cases hw with
    | some hw =>
      have h1 := hw.1
      rw [hch] at h1
      obtain ⟨x, hx, e⟩ := one0 h1
      simp only [List.cons.injEq, and_true] at hx
      exact ⟨_, rfl, by rw [hx]; exact e⟩
  | two hw hc hb =>
    cases hw with
    | some hw =>
      have h1 := hw.1
      rw [hch] at h1
      obtain ⟨x, hx, e⟩ := one0 h1
      simp at hx
theorem putR_split {B : Nat} {k : ByteArray} {v : Val} {t : PT 0} {T' : RT} (hp : PutR B k v (some ⟨0, t⟩) T') (h9 : (insE t.2 k v).length = 9) : ∃ (c : PT 1) (x y : PT 0), T' = some ⟨1, c⟩ ∧ c.2 = [x, y] ∧ x.2.length = 4 ∧ y.2.length = 5 := by
  have hch : chunk (insE t.2 k v) = [(insE t.2 k v).take 4, (insE t.2 k v).drop 4] := by simp [chunk, h9]
  cases hp with
  | one hw =>
    cases hw with
    | some hw =>
      have h1 := hw.1
      rw [hch] at h1
      obtain ⟨x, y, hx, e⟩ := two0 h1
      simp at hx
  | two hw hc hb =>
    cases hw with
    | some hw =>
      have h1 := hw.1
      rw [hch] at h1
      obtain ⟨x, y, hx, e1, e2⟩ := two0 h1
      simp only [List.cons.injEq, and_true] at hx
      obtain ⟨rfl, rfl⟩ := hx
      exact ⟨_, _, _, rfl, hc, by rw [e1, List.length_take]; omega, by rw [e2, List.length_drop]; omega⟩
theorem putR_none {B : Nat} {k : ByteArray} {v : Val} {T' : RT} (hp : PutR B k v none T') : ∃ u : PT 0, T' = some ⟨0, u⟩ ∧ u.2 = [(k, v)] := by
  cases hp with
  | one hw => cases hw with | none u hu hb => exact ⟨_, rfl, hu⟩
  | two hw hc hb => cases hw
theorem built_small {l : List Ent} {T : RT} (h : BuiltR l T) : Sorted l → l.length ≤ 8 → (l = [] ∧ T = none) ∨ ∃ t : PT 0, T = some ⟨0, t⟩ ∧ t.2 = l := by
  induction h with
  | nil => intro _ _; exact .inl ⟨rfl, rfl⟩
  | snoc h hp ih =>
    rename_i es T T' B k v
    intro hs hl
    obtain ⟨h1, h2⟩ := sorted_snoc hs
    simp only [List.length_append, List.length_cons, List.length_nil] at hl
    rcases ih h1 (by omega) with ⟨rfl, rfl⟩ | ⟨t, rfl, rfl⟩
    · exact .inr (putR_none hp)
    · have e : insE t.2 k v = t.2 ++ [(k, v)] := insE_last h2
      obtain ⟨u, rfl, hu⟩ := putR_leaf hp (by rw [e]; simp; omega)
      exact .inr ⟨u, rfl, by rw [hu, e]⟩
theorem built_nine {l : List Ent} {T : RT} (h : BuiltR l T) (hs : Sorted l) (hl : l.length = 9) : ∃ (c : PT 1) (x y : PT 0), T = some ⟨1, c⟩ ∧ c.2 = [x, y] ∧ x.2.length = 4 ∧ y.2.length = 5 := by
  cases h with
  | nil => simp at hl
  | snoc h hp =>
    rename_i es T B k v
    obtain ⟨h1, h2⟩ := sorted_snoc hs
    simp only [List.length_append, List.length_cons, List.length_nil] at hl
    rcases built_small h h1 (by omega) with ⟨rfl, rfl⟩ | ⟨t, rfl, rfl⟩
    · simp at hl
    · have e : insE t.2 k v = t.2 ++ [(k, v)] := insE_last h2
      exact putR_split hp (by rw [e]; simp; omega)
def letterE (i : Nat) : Ent := (⟨#[UInt8.ofNat (97 + i)]⟩, .mk 3 false i ByteArray.empty [] [] [])
theorem letters_lt {i j : Nat} (hij : i < j) (hj : j < 26) : klt (letterE i).1 (letterE j).1 = true := by
  show Op.bytesLess (ByteArray.mk #[UInt8.ofNat (97 + i)]).toList (ByteArray.mk #[UInt8.ofNat (97 + j)]).toList = true
  rw [ByteArray.toList_eq, ByteArray.toList_eq]
  simp only [Op.bytesLess, Bool.or_eq_true, decide_eq_true_eq]
  refine .inl ?_
  rw [UInt8.lt_iff_toNat_lt, UInt8.toNat_ofNat', UInt8.toNat_ofNat']
  omega
def lettersE (n : Nat) : List Ent := (List.range n).map letterE
theorem lettersE_succ (n : Nat) : lettersE (n + 1) = lettersE n ++ [letterE n] := by simp [lettersE, List.range_succ]
theorem lettersE_sorted : ∀ n, n ≤ 26 → Sorted (lettersE n)
  | 0, _ => List.Pairwise.nil
  | n + 1, h => by
    rw [lettersE_succ]
    refine List.pairwise_append.2 ⟨lettersE_sorted n (by omega), List.pairwise_singleton .., fun a ha b hb => ?_⟩
    rw [List.mem_singleton.1 hb]
    obtain ⟨i, hi, rfl⟩ := List.mem_map.1 ha
    exact letters_lt (List.mem_range.1 hi) (by omega)
end Go.Proofs.Ytohajcflklejjaa
namespace Go.Proofs.Ytohajcflklejjaa
open Go.RowKit
set_option linter.unusedVariables false
inductive DelT (B : Nat) (k : ByteArray) : RT → RT → Prop
  | no {T : RT} (h : getE (entsT T) k = none) : DelT B k T T
  | same {h : Nat} {t u : PT h} (hg : (getE (ents h t) k).isSome = true) (hd : DelR B k h t u) (hp : 0 < (ents h u).length) (h2 : h = 0 ∨ 2 ≤ size h u) : DelT B k (some ⟨h, t⟩) (some ⟨h, u⟩)
  | gone {t u : PT 0} (hg : (getE (ents 0 t) k).isSome = true) (hd : DelR B k 0 t u) (h0 : ents 0 u = []) : DelT B k (some ⟨0, t⟩) none
  | down {h : Nat} {t : PT (h + 1)} {u : PT h} (hg : (getE (ents (h + 1) t) k).isSome = true) (hd : DelK B k h (DelR B k h) t.2 [u]) : DelT B k (some ⟨h + 1, t⟩) (some ⟨h, u⟩)
theorem DelT.mono {A B : Nat} (hAB : A ≤ B) {k : ByteArray} {T T' : RT} (hd : DelT B k T T') : DelT A k T T' := by
  cases hd with
  | no h => exact .no h
  | same hg hd hp h2 => exact .same hg (hd.mono hAB) hp h2
  | gone hg hd h0 => exact .gone hg (hd.mono hAB) h0
  | down hg hd => exact .down hg (hd.mono hAB fun _ _ hr => hr.mono hAB)
theorem getE_entsT (h : Nat) (t : PT h) : entsT (some ⟨h, t⟩) = Proofs.Ytohajcflklejjaa.ents h t := rfl
theorem DelT.ents {B : Nat} {k : ByteArray} {T T' : RT} (hd : DelT B k T T') (ok : OkR T) : entsT T' = delE (entsT T) k := by
  cases hd with
  | no h => exact (delE_none h).symm
  | same hg hd hp h2 => exact hd.ents ok.1 ok.2.2
  | gone hg hd h0 => exact h0.symm.trans (hd.ents ok.1 ok.2.2)
  | down hg hd =>
    rename_i h t u
    have ok1 := ok.1
    have := hd.ents ok.2.2 (kids_pos ok1) (by have := ok1.1; omega) fun x y hx hr => hr.ents (ok1.2.2 x hx).1 (kid_sorted ok.2.2 x hx)
    rw [List.flatMap_cons, List.flatMap_nil, List.append_nil] at this
    exact this
theorem delK_root {B : Nat} {k : ByteArray} {h : Nat} {t : PT (h + 1)} {ks' : List (PT h)} (hd : DelK B k h (DelR B k h) t.2 ks') (ok : OkT (h + 1) t) (hs : Sorted (ents (h + 1) t)) (hg : (getE (ents (h + 1) t) k).isSome = true) :
    (∀ u ∈ ks', OkT h u ∧ 4 ≤ size h u) ∧ ks'.length ≤ t.2.length ∧ t.2.length ≤ ks'.length + 1 := by
  refine hd.ok ok.2.2 ok.1 fun x y hx hxk hr => ?_
  obtain ⟨kid2, hk2, hA, hC⟩ := which_split (h := h) (ks := t.2) hs (kids_pos ok) (by have := ok.1; omega) k
  rw [hxk] at hk2
  simp only [Option.some.injEq] at hk2
  subst hk2
  have := hr.ok (ok.2.2 x hx).1 (ok.2.2 x hx).2 (kid_sorted hs x hx) (by rw [← getE_kid hxk hA hC]; exact hg)
  exact ⟨this.1, this.2.1⟩
theorem DelT.ok {B : Nat} {k : ByteArray} {T T' : RT} (hd : DelT B k T T') (ok : OkR T) : OkR T' := by
  have hs : Sorted (entsT T') := by rw [hd.ents ok]; exact delE_sorted ok.sorted k
  cases hd with
  | no h => exact ok
  | same hg hd hp h2 =>
    rename_i h t u
    cases h with
    | zero =>
      have h1 := hd.1
      have : (delE t.2 k).length ≤ t.2.length := (delE_sublist t.2 k).length_le
      have o : t.2.length ≤ 8 := ok.1
      exact ⟨show u.2.length ≤ 8 by rw [h1]; omega, hp, hs⟩
    | succ h =>
      obtain ⟨h1, -⟩ := hd
      obtain ⟨a, b, c⟩ := delK_root h1 ok.1 ok.2.2 hg
      have h2 : 2 ≤ u.2.length := h2.resolve_left (by omega)
      have o8 := ok.1.2.1
      exact ⟨⟨h2, by omega, a⟩, show 1 ≤ u.2.length by omega, hs⟩
  | gone hg hd h0 => trivial
  | down hg hd =>
    obtain ⟨a, b, c⟩ := delK_root hd ok.1 ok.2.2 hg
    rename_i h t u
    have := a u (List.mem_singleton.2 rfl)
    exact ⟨this.1, by omega, hs⟩
end Go.Proofs.Ytohajcflklejjaa
namespace Go.Proofs.Ytohajcflklejjaa
open Go.RowKit
set_option linter.unusedVariables false
inductive Sh where
  | mk (es : List Ent) (ks : List Sh)
def Sh.es : Sh → List Ent | .mk e _ => e
def Sh.ks : Sh → List Sh | .mk _ k => k
theorem Sh.sz_pos (d : Sh) : 0 < SizeOf.sizeOf d := by cases d; simp only [Sh.mk.sizeOf_spec]; omega
theorem Sh.sz_k {es : List Ent} {ks : List Sh} {j : Nat} {d : Sh} (h : ks[j]? = some d) : SizeOf.sizeOf d < SizeOf.sizeOf (Sh.mk es ks) := by
  have := List.sizeOf_lt_of_mem (List.mem_of_getElem? h)
  simp only [Sh.mk.sizeOf_spec]; omega
mutual
def flatS : Sh → List Ent
  | .mk es ks => if ks.isEmpty then es else flatL ks
def flatL : List Sh → List Ent
  | [] => []
  | k :: ks => flatS k ++ flatL ks
end
mutual
def heightS : Sh → Nat
  | .mk _ ks => heightL ks
def heightL : List Sh → Nat
  | [] => 0
  | k :: _ => heightS k + 1
end
mutual
def nodesS : Sh → Nat
  | .mk _ ks => nodesL ks + 1
def nodesL : List Sh → Nat
  | [] => 0
  | k :: ks => nodesS k + nodesL ks
end
mutual
def soundS : Bool → Sh → Bool
  | root, .mk es ks => (root || decide (4 ≤ es.length + ks.length)) && soundL ks
def soundL : List Sh → Bool
  | [] => true
  | k :: ks => soundS false k && soundL ks
end
def risesE : List Ent → Bool
  | [] => true
  | [_] => true
  | a :: b :: l => klt a.1 b.1 && risesE (b :: l)
mutual
def mayS : Sh → Bool
  | .mk es ks => (if ks.isEmpty then decide (es.length ≤ 8) else es.isEmpty && decide (2 ≤ ks.length) && decide (ks.length ≤ 8) && mayL (heightL ks - 1) ks) && risesE (flatS (.mk es ks))
def mayL : Nat → List Sh → Bool
  | _, [] => true
  | h, k :: ks => mayS k && decide (0 < (flatS k).length) && decide (heightS k = h) && mayL h ks
end
theorem flatL_eq : ∀ ks : List Sh, flatL ks = ks.flatMap flatS
  | [] => rfl
  | k :: ks => by simp [flatL, flatL_eq ks]
theorem risesE_sorted : ∀ {l : List Ent}, Sorted l → risesE l = true
  | [], _ => rfl
  | [_], _ => rfl
  | a :: b :: l, h => by
    have h' := List.pairwise_cons.1 h
    simp only [risesE, Bool.and_eq_true]
    exact ⟨h'.1 b (List.mem_cons_self ..), risesE_sorted h'.2⟩
theorem sorted_risesE : ∀ {l : List Ent}, risesE l = true → Sorted l
  | [], _ => List.Pairwise.nil
  | [_], _ => List.pairwise_singleton ..
  | a :: b :: l, h => by
    simp only [risesE, Bool.and_eq_true] at h
    have ih := sorted_risesE h.2
    refine List.pairwise_cons.2 ⟨fun x hx => ?_, ih⟩
    rcases List.mem_cons.1 hx with rfl | hx
    · exact h.1
    · exact klt_trans h.1 ((List.pairwise_cons.1 ih).1 x hx)
def shOf : (h : Nat) → PT h → Sh
  | 0, t => .mk t.2 []
  | h + 1, t => .mk [] (t.2.map (shOf h))
theorem shOf_flat : ∀ {h : Nat} {t : PT h}, OkT h t → flatS (shOf h t) = ents h t
  | 0, t, _ => by simp [shOf, flatS, ents]
  | h + 1, t, ok => by
    have hne : (t.2.map (shOf h)).isEmpty = false := by
      have := ok.1
      cases ht : t.2 with
      | nil => rw [ht] at this; simp at this
      | cons a l => rfl
    simp only [shOf, flatS, hne, Bool.false_eq_true, if_false, flatL_eq, ents]
    rw [List.flatMap_map]
    have : ∀ (l : List (PT h)), (∀ x ∈ l, OkT h x) → l.flatMap (fun a => flatS (shOf h a)) = l.flatMap (ents h) := by
      intro l
      induction l with
      | nil => intro _; rfl
      | cons a l ih =>
        intro hl
        rw [List.flatMap_cons, List.flatMap_cons, ih fun x hx => hl x (List.mem_cons_of_mem _ hx), shOf_flat (hl a (List.mem_cons_self ..))]
    exact this _ fun x hx => (ok.2.2 x hx).1
theorem shOf_height : ∀ {h : Nat} {t : PT h}, OkT h t → heightS (shOf h t) = h
  | 0, t, _ => by simp [shOf, heightS, heightL]
  | h + 1, t, ok => by
    have h2 := ok.1
    have hk := ok.2.2
    cases ht : t.2 with
    | nil => rw [ht] at h2; simp at h2
    | cons a l =>
      simp only [shOf, ht, List.map_cons, heightS, heightL]
      rw [shOf_height (hk a (by rw [ht]; exact List.mem_cons_self ..)).1]
theorem shOf_sound (root : Bool) : ∀ {h : Nat} {t : PT h}, OkT h t → (root = true ∨ 4 ≤ size h t) → soundS root (shOf h t) = true
  | 0, t, ok, hr => by
    simp only [shOf, soundS, soundL, Bool.and_true, List.length_nil, Nat.add_zero, Bool.or_eq_true, decide_eq_true_eq]
    exact hr
  | h + 1, t, ok, hr => by
    simp only [shOf, soundS, List.length_nil, Nat.zero_add, List.length_map, Bool.and_eq_true, Bool.or_eq_true, decide_eq_true_eq]
    refine ⟨hr, ?_⟩
    have : ∀ (l : List (PT h)), (∀ x ∈ l, OkT h x ∧ 4 ≤ size h x) → soundL (l.map (shOf h)) = true := by
      intro l
      induction l with
      | nil => intro _; rfl
      | cons a l ih =>
        intro hl
        have ha := hl a (List.mem_cons_self ..)
        simp only [List.map_cons, soundL, Bool.and_eq_true]
        exact ⟨shOf_sound false ha.1 (.inr ha.2), ih fun x hx => hl x (List.mem_cons_of_mem _ hx)⟩
    exact this _ ok.2.2
theorem shOf_may : ∀ {h : Nat} {t : PT h}, OkT h t → Sorted (ents h t) → mayS (shOf h t) = true
  | 0, t, ok, hs => by
    have ok : t.2.length ≤ 8 := ok
    simp only [shOf, mayS, List.isEmpty_nil, if_true, flatS, Bool.and_eq_true, decide_eq_true_eq]
    exact ⟨ok, risesE_sorted hs⟩
  | h + 1, t, ok, hs => by
    have hf := shOf_flat ok
    have hh := shOf_height ok
    have hne : (t.2.map (shOf h)).isEmpty = false := by
      have := ok.1
      cases ht : t.2 with
      | nil => rw [ht] at this; simp at this
      | cons a l => rfl
    simp only [shOf] at hf hh ⊢
    simp only [heightS] at hh
    simp only [mayS, hne, Bool.false_eq_true, if_false, hf, hh, List.isEmpty_nil, Bool.true_and, List.length_map, Bool.and_eq_true, decide_eq_true_eq, Nat.add_sub_cancel]
    refine ⟨⟨⟨ok.1, ok.2.1⟩, ?_⟩, risesE_sorted hs⟩
    have : ∀ (l : List (PT h)), (∀ x ∈ l, OkT h x ∧ 4 ≤ size h x ∧ Sorted (ents h x)) → mayL h (l.map (shOf h)) = true := by
      intro l
      induction l with
      | nil => intro _; rfl
      | cons a l ih =>
        intro hl
        have ha := hl a (List.mem_cons_self ..)
        simp only [List.map_cons, mayL, Bool.and_eq_true, decide_eq_true_eq]
        exact ⟨⟨⟨shOf_may ha.1 ha.2.2, by rw [shOf_flat ha.1]; exact ents_pos h a ha.1 (by omega)⟩, shOf_height ha.1⟩, ih fun x hx => hl x (List.mem_cons_of_mem _ hx)⟩
    exact this _ fun x hx => ⟨(ok.2.2 x hx).1, (ok.2.2 x hx).2, kid_sorted hs x hx⟩
theorem ents_least : ∀ {h : Nat} {t : PT h}, OkT h t → 4 ≤ size h t → 4 ^ (h + 1) ≤ (ents h t).length
  | 0, t, _, h4 => h4
  | h + 1, t, ok, h4 => by
    have h4 : 4 ≤ t.2.length := h4
    have : ∀ (l : List (PT h)), (∀ x ∈ l, OkT h x ∧ 4 ≤ size h x) → l.length * 4 ^ (h + 1) ≤ (l.flatMap (ents h)).length := by
      intro l
      induction l with
      | nil => intro _; simp
      | cons a l ih =>
        intro hl
        have ha := hl a (List.mem_cons_self ..)
        have h1 := ents_least ha.1 ha.2
        have h2 := ih fun x hx => hl x (List.mem_cons_of_mem _ hx)
        rw [List.flatMap_cons, List.length_append, List.length_cons, Nat.add_mul]
        omega
    have h1 := this t.2 ok.2.2
    rw [Nat.pow_succ]
    show _ ≤ (t.2.flatMap (ents h)).length
    have : 4 * 4 ^ (h + 1) ≤ t.2.length * 4 ^ (h + 1) := Nat.mul_le_mul_right _ h4
    omega
theorem ents_least2 {h : Nat} {t : PT (h + 1)} (ok : OkT (h + 1) t) : 2 * 4 ^ (h + 1) ≤ (ents (h + 1) t).length := by
  have : ∀ (l : List (PT h)), (∀ x ∈ l, OkT h x ∧ 4 ≤ size h x) → l.length * 4 ^ (h + 1) ≤ (l.flatMap (ents h)).length := by
    intro l
    induction l with
    | nil => intro _; simp
    | cons a l ih =>
      intro hl
      have ha := hl a (List.mem_cons_self ..)
      have h1 := ents_least ha.1 ha.2
      have h2 := ih fun x hx => hl x (List.mem_cons_of_mem _ hx)
      rw [List.flatMap_cons, List.length_append, List.length_cons, Nat.add_mul]
      omega
  have h1 := this t.2 ok.2.2
  show _ ≤ (t.2.flatMap (ents h)).length
  have : 2 * 4 ^ (h + 1) ≤ t.2.length * 4 ^ (h + 1) := Nat.mul_le_mul_right _ ok.1
  omega
end Go.Proofs.Ytohajcflklejjaa
namespace Go.Proofs.Ytohajcflklejjaa
open Go.RowKit
set_option linter.unusedVariables false
structure SCells (w : World) (b o : Nat) (d : Sh) (c : Sl × Sl) : Prop where
  c0 : w.cell? ⟨b, o, none⟩ = some (.slice c.1.a d.es.length c.1.c)
  c1 : w.cell? ⟨b, o + 1, none⟩ = some (.slice c.2.a d.ks.length c.2.c)
theorem SCells.agree {w w' : World} {b o : Nat} {d : Sh} {c : Sl × Sl} (h : SCells w b o d c) {F : Nat → Prop} (ha : Agree F w w') (hb : F b) : SCells w' b o d c := ⟨(ha.cell hb).trans h.c0, (ha.cell hb).trans h.c1⟩
inductive RS (w : World) (F : Nat → Prop) : Sh → Sl → Sl → Prop
  | mk {es : List Ent} {ks : List Sh} {se sk : Sl} (xs : List LE) (bk fk : Nat) (c : Nat → Sl × Sl) (hx : xs.map LE.ent = es) (he : ES w F se xs) (hs : SlAt F sk ks.length bk fk)
      (ce : ∀ j d, ks[j]? = some d → SCells w bk (fk + j * 2) d (c j)) (re : ∀ j d, ks[j]? = some d → RS w F d (c j).1 (c j).2)
      (few : ks.length * 48 ≤ 140737488355328) : RS w F (.mk es ks) se sk
theorem RS.agree {w w' : World} {F : Nat → Prop} {d : Sh} {se sk : Sl} (h : RS w F d se sk) (ha : Agree F w w') : RS w' F d se sk := by
  induction h with
  | mk xs bk fk c hx he hs ce re few ih =>
    exact .mk xs bk fk c hx (he.agree ha) hs (fun j d hj => (ce j d hj).agree ha (hs.fits (lt_length hj))) (fun j d hj => ih j d hj) few
theorem RS.mono {w : World} {F G : Nat → Prop} {d : Sh} {se sk : Sl} (h : RS w F d se sk) (hG : ∀ i, F i → G i) : RS w G d se sk := by
  induction h with
  | mk xs bk fk c hx he hs ce re few ih => exact .mk xs bk fk c hx (he.mono hG) (hs.mono hG) ce (fun j d hj => ih j d hj) few
theorem RS.ext {w w' : World} {d : Sh} {se sk : Sl} (h : RS w (Lt w.heap.size) d se sk) (he : Ext w w') : RS w' (Lt w'.heap.size) d se sk :=
  (h.agree (he.agree fun _ h => h)).mono fun _ hi => Nat.lt_of_lt_of_le hi he.size
abbrev aggS (d : Sh) (se sk : Sl) : Value := .agg #[.slice se.a d.es.length se.c, .slice sk.a d.ks.length sk.c]
theorem RS.ents {w : World} {F : Nat → Prop} {d : Sh} {se sk : Sl} (h : RS w F d se sk) : ∃ xs, xs.map LE.ent = d.es ∧ ES w F se xs := by
  cases h with
  | mk xs bk fk c hx he hs ce re few => exact ⟨xs, hx, he⟩
theorem RS.kid {w : World} {F : Nat → Prop} {d : Sh} {se sk : Sl} (h : RS w F d se sk) {j : Nat} {k : Sh} (hk : d.ks[j]? = some k) :
    ∃ b o s1 s2, sk.a = some ⟨b, o, none⟩ ∧ F b ∧ d.ks.length ≤ sk.c ∧ sk.c ≤ maxLen ∧ SCells w b (o + j * 2) k (s1, s2) ∧ RS w F k s1 s2 := by
  cases h with
  | mk xs bk fk c hx he hs ce re few =>
    obtain ⟨e1, e2, e3⟩ := hs.eq (lt_length hk)
    exact ⟨bk, fk, (c j).1, (c j).2, e1, hs.fits (lt_length hk), e2, e3, ce j k hk, re j k hk⟩
theorem RS.few {w : World} {F : Nat → Prop} {d : Sh} {se sk : Sl} (h : RS w F d se sk) : d.ks.length * 48 ≤ 140737488355328 ∧ d.es.length * 104 ≤ 140737488355328 := by
  cases h with
  | mk xs bk fk c hx he hs ce re few => exact ⟨few, by subst hx; rw [Sh.es, List.length_map]; exact he.few⟩
theorem RS.leaf {w : World} {F : Nat → Prop} {se : Sl} {xs : List LE} (he : ES w F se xs) : RS w F (.mk (xs.map LE.ent) []) se Sl.none :=
  .mk xs 0 0 (fun _ => (Sl.none, Sl.none)) rfl he (.nil _ _) (fun j d h => by simp at h) (fun j d h => by simp at h) (by simp)
end Go.Proofs.Ytohajcflklejjaa
namespace Go.Proofs.Ytohajcflklejjaa
open Go.RowKit
set_option linter.unusedVariables false
set_option linter.unusedSimpArgs false
def GatherPost (base : Nat) (s : Sl) (xs : List LE) (es : List Ent) (w : World) (e : Ending) (w' : World) : Prop :=
  ∃ (s' : Sl) (ys : List LE), e = .returned (.slice s'.a (xs.length + ys.length) s'.c) ∧ OE w' base s' (xs ++ ys) ∧ ys.map LE.ent = es ∧ Wr w w' s.row ∧ (s'.row = s.row ∨ ∃ b, s'.row = some b ∧ w.heap.size ≤ b)
theorem OE.append {w w' : World} {base : Nat} {s s' : Sl} {xs ys : List LE} {F : Nat → Prop} (ho : OE w base s xs) (hv : Vals w F ys) (hF : ∀ b, F b → base ≤ b ∧ b < w.heap.size ∧ s.row ≠ some b) (hf : (xs.length + ys.length) * 104 ≤ 140737488355328)
    (hown : w'.ownsRow base 63 7 (.slice s'.a (xs.length + ys.length) s'.c) (xs.length + ys.length) (flatE xs ++ flatE ys)) (hwr : Wr w w' s.row) (hs' : s'.row = s.row ∨ ∃ b, s'.row = some b ∧ w.heap.size ≤ b) : OE w' base s' (xs ++ ys) := by
  have hnew : ∀ b, b < w.heap.size → s.row ≠ some b → s'.row ≠ some b := fun b hb hn he => by
    rcases hs' with h | ⟨g, h, hg⟩
    · exact hn (h ▸ he)
    · rw [h] at he; simp at he; omega
  have hag : Agree (fun b => (base ≤ b ∧ b < w.heap.size) ∧ s.row ≠ some b) w w' := hwr.agree (fun i hi => hi.1.2) (fun k hk h => h.2 hk)
  refine ⟨by rw [List.length_append, flatE_app]; exact hown, fun x hx => ?_, by rw [List.length_append]; exact hf⟩
  have hup : ∀ i, ((base ≤ i ∧ i < w.heap.size) ∧ s.row ≠ some i) → (base ≤ i ∧ i < w'.heap.size) ∧ s'.row ≠ some i := fun i hi => ⟨⟨hi.1.1, Nat.lt_of_lt_of_le hi.1.2 hwr.grown.size⟩, hnew i hi.1.2 hi.2⟩
  rcases List.mem_append.1 hx with hx | hx
  · exact ⟨((ho.vals x hx).1.agree hag).mono hup, (ho.vals x hx).2⟩
  · exact ⟨(((hv x hx).1.mono fun i hi => ⟨⟨(hF i hi).1, (hF i hi).2.1⟩, (hF i hi).2.2⟩).agree hag).mono hup, (hv x hx).2⟩
theorem EntriesPost.base {es : List Ent} {w : World} {e : Ending} {w' : World} (h : EntriesPost es w e w') : ∃ (s : Sl) (ys : List LE), e = .returned (.slice s.a ys.length s.c) ∧ ys.map LE.ent = es ∧ OE w' w.heap.size s ys ∧ Ext w w' := h
theorem ext_wr {w w' : World} (h : Ext w w') (r : Option Nat) : Wr w w' r := ⟨⟨h.below.os, h.below.tape, h.below.output, h.size, fun k hk _ => h.heap hk⟩, h.fz⟩
set_option maxRecDepth 100000 in
set_option maxHeartbeats 1000000 in
theorem gather_zero {w : World} {nv : Value} {es : List Ent} {base : Nat} {s : Sl} {xs : List LE} (he : Calls Try.prog 23 #[nv] w (EntriesPost es w)) (hk : ∀ W, Wr w W s.row → Calls Try.prog 55 #[nv] W fun e w' => e = .returned (.slice none 0 0) ∧ W = w')
    (hb : base ≤ w.heap.size) (ho : OE w base s xs) (hl : xs.length + es.length ≤ 1000000) : Calls Try.prog 43 #[.slice s.a xs.length s.c, nv] w (GatherPost base s xs es w) := by
  obtain ⟨i0, hi, hz0, hz1, hz2⟩ := info_parts Try.infoEntry
  have HK := Lib.hid hk
  have HO := Lib.hid ho
  clear hk ho
  go_enter Try.func43, Try.ntmps43
  go_wp2_with fail
  refine he.mono ?_
  intro e w1 hp
  obtain ⟨sy, ys, rfl, hys, hoy, hx1⟩ := hp.base
  have hyl : ys.length = es.length := by rw [← hys, List.length_map]
  have ho1 := HO.out.ext hx1
  have HO1 := Lib.hid ho1
  have HX1 := Lib.hid hx1
  have HOY := Lib.hid hoy
  have HYS := Lib.hid hys
  have h63 : xs.length + ys.length ≤ maxLen := by unfold maxLen; omega
  have hb1 : base ≤ w1.heap.size := Nat.le_trans hb hx1.size
  have hby : (xs.length + ys.length) * 104 ≤ 140737488355328 := by omega
  clear hp hys hoy hx1 ho1 hyl
  go_wp2_with (at_builtin; refine wpList_append_x _ rfl (.tmp 7) (.tmp 9) 22 rfl base 63 i0 _ 7 104 Try.underlying22 hi hz0 hz1 hz2 rfl (by decide) s xs.length (flatE xs) rfl HO1.out.own (In w.heap.size w1.heap.size) sy ys.length (flatE ys) rfl HOY.out.es.rd (flatE_one ys) h63 hby hb1 ?_; intro s' w2 hown hwr hs')
  have hs2 : s'.row = s.row ∨ ∃ b, s'.row = some b ∧ w1.heap.size ≤ b := by
    rcases hs' with h | ⟨h, -⟩
    · exact .inl (by simp [Sl.row, h])
    · exact .inr ⟨w1.heap.size, by simp [Sl.row, h], Nat.le_refl _⟩
  have hrow : ∀ b, s.row = some b → b < w.heap.size := fun b hb => (own_row HO.out.own hb).2
  have ho2 := OE.append HO1.out HOY.out.es.vals (fun b hb => ⟨Nat.le_trans ‹base ≤ w.heap.size› hb.1, hb.2, fun e => by have := hrow b e; omega⟩) hby hown hwr hs2
  have HO2 := Lib.hid ho2
  have HW := Lib.hid ((ext_wr HX1.out s.row).trans hwr (fun i hi => .inl hi))
  have HS2 := Lib.hid hs2
  have hx1s := HX1.out.size
  clear ho2 hown hwr hs' hs2 hrow
  refine (HK.out w2 HW.out).mono ?_
  rintro e w3 ⟨rfl, rfl⟩
  go_wp2_with fail
  go_loopw [0, 14] (fun v i wr => v = .slice s'.a (xs.length + ys.length) s'.c ∧ i = .int .i64 0 ∧ wr = w2) (fun _ _ _ => 0)
  case atStart => exact ⟨rfl, rfl, rfl⟩
  case round =>
    obtain ⟨rfl, rfl, rfl⟩ := hrel
    go_wp2_with fail
    go_ret
    exact ⟨s', ys, rfl, HO2.out, HYS.out, HW.out, HS2.out.imp_right fun ⟨b, h1, h2⟩ => ⟨b, h1, Nat.le_trans hx1s h2⟩⟩
structure GathS (base : Nat) (s : Sl) (xs : List LE) (w wr : World) (s' : Sl) (ys : List LE) : Prop where
  own : OE wr base s' (xs ++ ys)
  wr : Wr w wr s.row
  row : s'.row = s.row ∨ ∃ b, s'.row = some b ∧ w.heap.size ≤ b
set_option maxRecDepth 100000 in
set_option maxHeartbeats 1000000 in
theorem gather_succ {h : Nat} (ih : ∀ (t : PT h) (w : World) (F : Nat → Prop) (base : Nat) (s : Sl) (xs : List LE), IsN w F h t → (∀ b, F b → b < w.heap.size ∧ s.row ≠ some b) → base ≤ w.heap.size → OE w base s xs → OkT h t → xs.length + (ents h t).length ≤ 1000000 → Calls Try.prog 43 #[.slice s.a xs.length s.c, ptr h t] w (GatherPost base s xs (ents h t) w))
    {t : PT (h + 1)} {w : World} {F : Nat → Prop} {base : Nat} {s : Sl} {xs : List LE} (hn : IsN w F (h + 1) t) (hF : ∀ b, F b → b < w.heap.size ∧ s.row ≠ some b) (hb : base ≤ w.heap.size) (ho : OE w base s xs) (ok : OkT (h + 1) t) (hl : xs.length + (ents (h + 1) t).length ≤ 1000000) :
    Calls Try.prog 43 #[.slice s.a xs.length s.c, ptr (h + 1) t] w (GatherPost base s xs (ents (h + 1) t) w) := by
  obtain ⟨i0, hi, hz0, hz1, hz2⟩ := info_parts Try.infoEntry
  have hlen8 := ok.2.1
  have hlen2 := ok.1
  have hc := kids_any hn (by omega)
  have hks : ∀ x ∈ t.2, IsN w F h x := hn.2.choose_spec.2.2
  have he := entries_inner hn
  have HIH := Lib.hid ih
  have HO := Lib.hid ho
  have HF := Lib.hid hF
  have HKS := Lib.hid hks
  have HOK := Lib.hid ok
  have HL := Lib.hid hl
  have h63 : xs.length + 0 ≤ maxLen := by unfold maxLen; omega
  have hby : (xs.length + 0) * 104 ≤ 140737488355328 := by omega
  have hn0 := Lib.hid hn
  clear ih ho hF hks ok hl hn hc
  go_enter Try.func43, Try.ntmps43
  go_wp2_with fail
  refine he.mono ?_
  rintro e w1 ⟨rfl, rfl⟩
  go_wp2_with (at_builtin; refine wpList_append_x _ rfl (.tmp 7) (.tmp 9) 22 rfl base 63 i0 _ 7 104 Try.underlying22 hi hz0 hz1 hz2 rfl (by decide) s xs.length (flatE xs) rfl HO.out.own (fun _ => True) Sl.none 0 [] rfl (Rd.nil _ _ _) (by simp) h63 hby hb ?_; intro s' w2 hown hwr hs')
  have hs2 : s'.row = s.row ∨ ∃ b, s'.row = some b ∧ w.heap.size ≤ b := by
    rcases hs' with h | ⟨h, -⟩
    · exact .inl (by simp [Sl.row, h])
    · exact .inr ⟨w.heap.size, by simp [Sl.row, h], Nat.le_refl _⟩
  have ho2 : OE w2 base s' (xs ++ []) := OE.append (F := fun _ => False) HO.out (fun x hx => by simp at hx) (fun b hb => hb.elim) hby (by simpa [flatE_nil] using hown) hwr hs2
  rw [List.append_nil] at ho2
  have hrow2 : ∀ b, s'.row = some b → b < w2.heap.size := fun b hb => (own_row ho2.own hb).2
  have hnW : IsN w2 F (h + 1) t := hn0.out.agree (hwr.agree (fun i hi => (HF.out i hi).1) (fun k hk h => (HF.out k h).2 hk))
  have hkc := kids_any hnW (by omega)
  have HG0 := Lib.hid (show GathS base s xs w w2 s' [] from ⟨by rw [List.append_nil]; exact ho2, hwr, hs2⟩)
  clear hs' hown ho2 hwr hs2 hnW
  refine hkc.mono ?_
  rintro e w3 ⟨sk, rfl, hown, hx3⟩
  obtain ⟨g, cap, rfl, hbg, hnc, hcm, hfil⟩ := own_block hown (by omega)
  have hrd : Rd w3 (fun b => b = g) 1 ⟨some ⟨g, 0, none⟩, cap⟩ t.2.length (ptrs h t.2) := by
    obtain ⟨b, o, h1, h2, h3⟩ := Rd.of_own hown
    obtain ⟨e1, hnc, hcm⟩ := h1.eq (by omega)
    obtain ⟨rfl, rfl⟩ : g = b ∧ 0 = o := by simpa using e1
    exact ⟨g, 0, .some _ _ _ _ hnc hcm rfl, h2, h3⟩
  have hgr : s'.row ≠ some g := fun e => by have := hrow2 g e; omega
  have hgl : g < w3.heap.size := hfil.lt
  have HG3 := Lib.hid (show GathS base s xs w w3 s' [] from ⟨HG0.out.own.ext hx3, HG0.out.wr.trans (ext_wr hx3 none) (fun i hi => by cases hi), HG0.out.row⟩)
  have HRD := Lib.hid hrd
  clear hfil hown hx3 hrd hkc hrow2 HG0
  go_wp2_with fail
  go_loopw [0, 14] (fun v i wr => ∃ (j : Nat) (s'' : Sl) (ys : List LE), j ≤ t.2.length ∧ i = .int .i64 j ∧ v = .slice s''.a (xs.length + ys.length) s''.c ∧ ys.map LE.ent = (t.2.take j).flatMap (ents h) ∧ GathS base s xs w wr s'' ys ∧ Rd wr (fun b => b = g) 1 ⟨some ⟨g, 0, none⟩, cap⟩ t.2.length (ptrs h t.2) ∧ s''.row ≠ some g ∧ g < wr.heap.size)
    (fun _ i _ => t.2.length - (intOf i).toNat)
  case atStart => exact ⟨0, s', [], Nat.zero_le _, rfl, rfl, rfl, HG3.out, HRD.out, hgr, hgl⟩
  case round =>
    obtain ⟨j, s'', ys, hj, rfl, rfl, hys, hG, hrd, hgr', hgl'⟩ := hrel
    have HYS := Lib.hid hys
    have HG := Lib.hid hG
    have HR := Lib.hid hrd
    by_cases hlt : j < t.2.length
    · obtain ⟨kid, hkid⟩ : ∃ kid, t.2[j]? = some kid := ⟨_, List.getElem?_eq_getElem hlt⟩
      obtain ⟨b, o, hba, -, -, -, hbc⟩ := hrd.ptr_at hkid
      obtain ⟨rfl, rfl⟩ : g = b ∧ 0 = o := by simpa using hba
      have kc : wr.cell? ⟨g, j, none⟩ = some (ptr h kid) := by simpa using hbc
      have hjl : (j : Int) < (t.2.length : Int) := by omega
      have hkm := List.mem_of_getElem? hkid
      have hlen : ys.length + (ents h kid).length ≤ (ents (h + 1) t).length := by
        have e1 : ys.length = ((t.2.take j).flatMap (ents h)).length := by rw [← hys, List.length_map]
        show _ ≤ (t.2.flatMap (ents h)).length
        rw [e1]
        conv => rhs; rw [take_mid hkid]
        simp only [List.flatMap_append, List.flatMap_cons, List.length_append]; omega
      have hic := HIH.out kid wr F base s'' (xs ++ ys) ((HKS.out kid hkm).agree (hG.wr.agree (fun i hi => (HF.out i hi).1) (fun k hk h => (HF.out k h).2 hk)))
        (fun b hb => ⟨Nat.lt_of_lt_of_le (HF.out b hb).1 hG.wr.grown.size, fun e => by
          rcases hG.row with h | ⟨b', h, hb'⟩
          · exact (HF.out b hb).2 (h ▸ e)
          · rw [h] at e; simp at e; have := (HF.out b hb).1; omega⟩)
        (Nat.le_trans hb hG.wr.grown.size) hG.own (HOK.out.2.2 kid hkm).1 (by have := HL.out; rw [List.length_append]; omega)
      rw [List.length_append] at hic
      have HK := Lib.hid hkid
      clear hys hG hrd hkid hba hbc hkm hlen
      go_wp2_with fail
      refine hic.mono ?_
      rintro e w4 ⟨s4, zs, rfl, ho4, hz4, hw4, hr4⟩
      have HZ := Lib.hid hz4
      have hg4 : s4.row ≠ some g := fun e => by
        rcases hr4 with h | ⟨b', h, hb'⟩
        · exact hgr' (h ▸ e)
        · rw [h] at e; simp at e; omega
      have hG4 : GathS base s xs w w4 s4 (ys ++ zs) := by
        refine ⟨by rw [← List.append_assoc]; exact ho4, HG.out.wr.trans hw4 (fun i hi => ?_), ?_⟩
        · rcases HG.out.row with h | ⟨b', h, hb'⟩
          · exact .inl (h ▸ hi)
          · rw [h] at hi; simp at hi; exact .inr (by omega)
        · rcases hr4 with h | ⟨b', h, hb'⟩
          · rw [h]; exact HG.out.row
          · exact .inr ⟨b', h, Nat.le_trans HG.out.wr.grown.size hb'⟩
      have hR4 := HR.out.agree (hw4.agree (F := fun b => b = g) (fun i hi => by omega) (fun k hk e => hgr' (e ▸ hk)))
      have hgl4 : g < w4.heap.size := Nat.lt_of_lt_of_le hgl' hw4.grown.size
      have HG4 := Lib.hid hG4
      have HR4 := Lib.hid hR4
      have hw1 : (xs ++ ys).length + zs.length = xs.length + (ys ++ zs).length := by simp [Nat.add_assoc]
      have HW1 := Lib.hid hw1
      clear hz4 ho4 hw4 hr4 hG4 hR4 hw1 hic
      go_wp2_with fail
      go_roundw
      case rel => exact ⟨j + 1, s4, ys ++ zs, hlt, by go_num, by rw [← HW1.out]; simp, by rw [List.map_append, HYS.out, HZ.out, List.take_add_one, HK.out]; simp, HG4.out, HR4.out, hg4, hgl4⟩
      case measure => simp [intOf]; omega
    · obtain rfl : j = t.2.length := by omega
      clear hys hG hrd
      go_wp2_with fail
      go_ret
      exact ⟨s'', ys, rfl, HG.out.own, by rw [HYS.out, List.take_length]; rfl, HG.out.wr, HG.out.row⟩
theorem gather_any : ∀ (h : Nat) (t : PT h) (w : World) (F : Nat → Prop) (base : Nat) (s : Sl) (xs : List LE), IsN w F h t → (∀ b, F b → b < w.heap.size ∧ s.row ≠ some b) → base ≤ w.heap.size → OE w base s xs → OkT h t → xs.length + (ents h t).length ≤ 1000000 → Calls Try.prog 43 #[.slice s.a xs.length s.c, ptr h t] w (GatherPost base s xs (ents h t) w)
  | 0, t, w, F, base, s, xs, hn, hF, hb, ho, _, hl =>
    gather_zero (entries_any (hn.mono fun b hb => (hF b hb).1)) (fun W hW => kids_leaf (hn.agree (hW.agree (fun i hi => (hF i hi).1) (fun k hk h => (hF k h).2 hk)))) hb ho hl
  | h + 1, t, w, F, base, s, xs, hn, hF, hb, ho, ok, hl => gather_succ (gather_any h) hn hF hb ho ok hl
theorem kids_nil (w : World) : Calls Try.prog 55 #[.pointer none] w fun e w' => e = .returned (.slice none 0 0) ∧ w = w' := by
  go_enter Try.func55, Try.ntmps55
  go_wp2_with fail
  go_ret
  exact ⟨rfl, rfl⟩
theorem gatherR_any {T : RT} {w : World} {F : Nat → Prop} {base : Nat} {s : Sl} {xs : List LE} (hT : IsT w F T) (hF : ∀ b, F b → b < w.heap.size ∧ s.row ≠ some b) (hb : base ≤ w.heap.size) (ho : OE w base s xs) (ok : OkR T) (hl : xs.length + (entsT T).length ≤ 1000000) :
    Calls Try.prog 43 #[.slice s.a xs.length s.c, rootV T] w (GatherPost base s xs (entsT T) w) := by
  match T, hT, ok, hl with
  | none, _, _, hl => exact gather_zero ((entries_nil w).mono fun e w' ⟨h1, h2⟩ => ⟨Sl.none, [], h1, rfl, OE.nil _ _, h2 ▸ Ext.refl w⟩) (fun W _ => kids_nil W) hb ho hl
  | some ⟨h, t⟩, hT, ok, hl => exact gather_any h t w F base s xs hT hF hb ho ok.1 hl
theorem countR_any {w : World} {F : Nat → Prop} {T : RT} (hT : IsT w F T) : Calls Try.prog 19 #[rootV T] w fun e w' => e = .returned (.int .i64 (entsT T).length) ∧ w = w' := by
  match T, hT with
  | none, _ => exact count_nil w
  | some ⟨h, t⟩, hT => exact count_any hT
theorem treeLen_any {w : World} {F : Nat → Prop} {T : RT} (hF : ∀ b, F b → b < w.heap.size) (hT : IsT w F T) : Calls Try.prog 17 #[treeV T] w fun e w' => e = .returned (.int .i64 (entsT T).length) ∧ Ext w w' := by
  have hx : Ext w (w.alloc (.cells #[rootV T] 32)) := (Ext.refl w).alloc _ _
  have hc := countR_any (hT.agree (hx.agree hF))
  clear hF hT
  go_enter Try.func17, Try.ntmps17
  go_wp2_with fail
  refine hc.mono ?_
  rintro e w' ⟨rfl, rfl⟩
  go_wp2_with fail
  go_ret
  exact ⟨rfl, hx⟩
theorem treeRoot_any (w : World) (v : Value) : Calls Try.prog 10 #[.agg #[v]] w fun e w' => e = .returned v ∧ Ext w w' := by
  go_enter Try.func10, Try.ntmps10
  go_wp2_with fail
  go_ret
  exact ⟨rfl, (Ext.refl w).alloc _ _⟩
set_option maxRecDepth 100000 in
set_option maxHeartbeats 1000000 in
theorem treeEntries_any {w : World} {F : Nat → Prop} {T : RT} (hF : ∀ b, F b → b < w.heap.size) (hT : IsT w F T) (ok : OkR T) (hl : (entsT T).length ≤ 1000000) : Calls Try.prog 31 #[treeV T] w (EntriesPost (entsT T) w) := by
  obtain ⟨i0, hi, hz0, hz1, hz2⟩ := info_parts Try.infoEntry
  have hln : ∀ W, Ext w W → Calls Try.prog 17 #[treeV T] W fun e w' => e = .returned (.int .i64 (entsT T).length) ∧ Ext W w' := fun W hW =>
    treeLen_any (fun b hb => Nat.lt_of_lt_of_le (hF b hb) hW.size) (hT.agree (hW.agree hF))
  have hga : ∀ (W : World) (s : Sl), Ext w W → OE W w.heap.size s [] → Calls Try.prog 43 #[.slice s.a 0 s.c, rootV T] W (GatherPost w.heap.size s [] (entsT T) W) := fun W s hW ho =>
    gatherR_any (xs := []) (hT.agree (hW.agree hF)) (fun b hb => ⟨Nat.lt_of_lt_of_le (hF b hb) hW.size, fun e => by have := (own_row ho.own e).1; have := hF b hb; omega⟩) hW.size ho ok (by simpa using hl)
  generalize entsT T = es at *
  obtain ⟨MC, hms, hmk⟩ : ∃ MC : Array Value, MC.size = es.length * 7 ∧ ∀ W, (Instr.makeSlice 22 (.int .i64 0) (.int .i64 (es.length : Int))).run Try.prog W = .ok (.slice (some ⟨W.heap.size, 0, none⟩) 0 es.length) (W.alloc (.cells MC 63)) := by
    refine ⟨madeCells (Value.cells (.agg #[.string ByteArray.empty, .int .i64 0, .bool false, .int .i64 0, .string ByteArray.empty, .slice none 0 0, .slice none 0 0])) (es.length * 7), size_madeCells _ _, fun W => ?_⟩
    have h := run_make_rowN (P := Try.prog) 22 63 i0 _ Try.underlying22 hi hz0 .i64 .i64 0 es.length (Nat.zero_le _) (by rw [hz2]; omega) (by omega) W
    rw [hz1] at h
    exact h
  have HMS := Lib.hid hms
  have HLN := Lib.hid hln
  have HGA := Lib.hid hga
  clear hF hT ok hln hga hi hz0 hz1 hz2 hms
  go_enter Try.func31, Try.ntmps31
  go_wp2_with fail
  have hx0 : Ext w (w.alloc (.cells #[rootV T] 32)) := (Ext.refl w).alloc _ _
  have hb0 := Blk.new w 32 #[rootV T]
  generalize hW0 : World.alloc _ _ = W0 at *
  have r0 : W0.cell? ⟨w.heap.size, 0, none⟩ = some (rootV T) := hb0.cell 0
  have l0 := hb0.lt
  clear hW0
  go_region_held3 (fun w' => w'.cell? ⟨w.heap.size, 0, none⟩ = some (rootV T)) (first | (with_reducible exact r1) | (with_reducible exact r3) | go_keep)
    (first
      | (go_at_call 17; refine (HLN.out _ ?_).mono ?_; (exact hx0.drew); rintro e w1 ⟨rfl, hx1⟩; have r1 := (hx1.cell (o := 0) l0).trans r0; have l1 := Nat.lt_of_lt_of_le l0 hx1.size)
      | (go_at_call 43; refine (HGA.out _ ⟨some ⟨w1.heap.size, 0, none⟩, es.length⟩ ?_ ?_).mono ?_; (exact ((hx0.drew).trans hx1).alloc _ _); (exact ⟨World.ownsRow_made w1 MC es.length ((hx0.drew).trans hx1).size (by unfold maxLen; omega) HMS.out, fun x hx => by simp at hx, by simp⟩); rintro e w3 ⟨s3, ys, rfl, ho3, hy3, hw3, hr3⟩; have r3 : w3.cell? ⟨w.heap.size, 0, none⟩ = some (rootV T) := (World.cell?_of_block (w := w1.alloc (.cells MC 63)) (a := ⟨w.heap.size, 0, none⟩) (hw3.grown.block w.heap.size (by rw [World.size_alloc]; omega) (fun e => by simp [Sl.row] at e; omega))).trans ((World.cell?_alloc_lt _ _ _ l1).trans r1))
      )
  go_wp2_with fail
  go_ret
  have hX := ((hx0.drew).trans hx1).alloc MC 63
  exact ⟨s3, ys, rfl, hy3, by simpa using ho3, hX.wr hw3 (fun i hi => by simp [Sl.row] at hi; have := ((hx0.drew).trans hx1).size; omega)⟩
end Go.Proofs.Ytohajcflklejjaa
namespace Go.Proofs.Ytohajcflklejjaa
open Go.RowKit
section
variable {P : Program} (w : World)
theorem step_append_x {ops : Array Oper} {o : Oper} {a : Act} {K : Act → World → Prop} {Q : Exit → Act → World → Prop} {E : Prop} (hgd : o.guard = none) (s' x : Operand) (t : TypeId)
    (ho : o.op = .call { callee := .builtin .append, args := #[s', x], argTypes := #[t, t] })
    (base : Nat) (e : TypeId) (i : TypeInfo) (z : Value) (size bytes : Nat) (ht : P.underlying t = some (.slice e)) (hi : P.info? e = some i) (hz : i.zero = some z)
    (hsize : i.size = size) (hby : i.bytes = bytes) (hzs : z.cells.size = size) (hsz : 0 < size)
    (s : Sl) (n : Nat) (xs : List Value) (hs : a.eval s' = .slice s.a n s.c) (hown : w.ownsRow base e size (.slice s.a n s.c) n xs)
    (F : Nat → Prop) (sx : Sl) (m : Nat) (news : List Value) (hx : a.eval x = .slice sx.a m sx.c) (hsrc : Rd w F size sx m news) (h1 : ∀ u ∈ news, u.oneCell' = true)
    (h63 : n + m ≤ maxLen) (hbytes : (n + m) * bytes ≤ 140737488355328) (hbase : base ≤ w.heap.size)
    (h : ∀ (s' : Sl) (w' : World), w'.ownsRow base e size (.slice s'.a (n + m) s'.c) (n + m) (xs ++ news) → Wr w w' s.row → (s'.a = s.a ∨ s'.a = some ⟨w.heap.size, 0, none⟩ ∧ Wr w w' none) → K (a.put o.dst (.slice s'.a (n + m) s'.c)) w') :
    if Region.wanted o (yielded ops a.tmps) = true then Oper.wp P o a w K Q else E := by
  have hw : Region.wanted o (yielded ops a.tmps) = true := by simp [Region.wanted, hgd]
  rw [if_pos hw]
  exact wp_append_x w s' x t ho base e i z size bytes ht hi hz hsize hby hzs hsz s n xs hs hown F sx m news hx hsrc h1 h63 hbytes hbase h
theorem Rd.block {w : World} {g : Nat} {t : TypeId} {cs : List Value} {size n : Nat} (hb : Blk w g t cs.toArray) (hm : n ≤ maxLen) (hl : cs.length = n * size) : Rd w (fun b => b = g) size ⟨some ⟨g, 0, none⟩, n⟩ n cs :=
  ⟨g, 0, .some _ _ _ _ (Nat.le_refl _) hm rfl, hl, fun j u hj => by rw [Nat.zero_add, hb.cell]; simpa using hj⟩
end
end Go.Proofs.Ytohajcflklejjaa
namespace Go.Proofs.Ytohajcflklejjaa
open Go.RowKit
set_option linter.unusedVariables false
set_option linter.unusedSimpArgs false
theorem Try.infoShape : (Try.prog.info? 25).map (fun i => (i.zero, i.size, i.bytes)) = some (some (.agg #[.slice none 0 0, .slice none 0 0]), 2, 48) := by kernel_rfl
def ShapePost (d : Sh) (w : World) (e : Ending) (w' : World) : Prop :=
  ∃ se sk, e = .returned (aggS d se sk) ∧ Ext w w' ∧ RS w' (In w.heap.size w'.heap.size) d se sk
abbrev LS := Sh × Sl × Sl
def LS.cells (x : LS) : List Value := [.slice x.2.1.a x.1.es.length x.2.1.c, .slice x.2.2.a x.1.ks.length x.2.2.c]
def flatD (ds : List LS) : List Value := ds.flatMap LS.cells
theorem flatD_app (a b : List LS) : flatD (a ++ b) = flatD a ++ flatD b := by simp [flatD]
theorem flatD_at : ∀ {ds : List LS} {i : Nat} {x : LS}, ds[i]? = some x → ∀ c, c < 2 → (flatD ds)[i * 2 + c]? = (LS.cells x)[c]?
  | [], i, x, h, _, _ => by simp at h
  | y :: ys, 0, x, h, c, hc => by
    simp at h; subst h
    simp only [flatD, List.flatMap_cons]
    rw [Nat.zero_mul, Nat.zero_add, List.getElem?_append_left (by simp [LS.cells]; exact hc)]
  | y :: ys, i + 1, x, h, c, hc => by
    simp at h
    simp only [flatD, List.flatMap_cons]
    rw [List.getElem?_append_right (by simp [LS.cells]; omega)]
    have : (i + 1) * 2 + c - (LS.cells y).length = i * 2 + c := by simp [LS.cells]; omega
    rw [this]
    exact flatD_at h c hc
theorem LS.one (x : LS) : ∀ u ∈ LS.cells x, u.oneCell' = true := fun u hu => by
  simp [LS.cells] at hu
  rcases hu with rfl | rfl <;> rfl
structure OS (w : World) (base : Nat) (s : Sl) (ds : List LS) : Prop where
  own : w.ownsRow base 25 2 (.slice s.a ds.length s.c) ds.length (flatD ds)
  vals : ∀ x ∈ ds, RS w (fun b => (base ≤ b ∧ b < w.heap.size) ∧ s.row ≠ some b) x.1 x.2.1 x.2.2
  few : ds.length ≤ 1000
theorem OS.nil (w : World) (base : Nat) : OS w base Sl.none [] := ⟨World.ownsRow_nil _ _ _ _, fun x h => by simp at h, by simp⟩
theorem OS.ext {w w' : World} {base : Nat} {s : Sl} {ds : List LS} (h : OS w base s ds) (he : Ext w w') : OS w' base s ds :=
  ⟨own_agree h.own (he.agree (F := Lt w.heap.size) fun _ hi => hi) fun b hb => (own_row h.own hb).2, fun x hx => ((h.vals x hx).agree (he.agree fun _ hi => hi.1.2)).mono fun i hi => ⟨⟨hi.1.1, Nat.lt_of_lt_of_le hi.1.2 he.size⟩, hi.2⟩, h.few⟩
theorem OS.agree {w w' : World} {base : Nat} {s : Sl} {ds : List LS} (h : OS w base s ds) (ha : Agree (fun b => base ≤ b ∧ b < w.heap.size) w w') (hs : w.heap.size ≤ w'.heap.size) : OS w' base s ds :=
  ⟨own_agree h.own ha fun b hb => own_row h.own hb, fun x hx => ((h.vals x hx).agree (ha.mono fun i hi => hi.1)).mono fun i hi => ⟨⟨hi.1.1, Nat.lt_of_lt_of_le hi.1.2 hs⟩, hi.2⟩, h.few⟩
theorem OS.snoc {w w' : World} {base : Nat} {s s' : Sl} {ds : List LS} {x : LS} {F : Nat → Prop} (ho : OS w base s ds) (hv : RS w F x.1 x.2.1 x.2.2) (hF : ∀ b, F b → base ≤ b ∧ b < w.heap.size ∧ s.row ≠ some b) (hf : ds.length + 1 ≤ 1000)
    (hown : w'.ownsRow base 25 2 (.slice s'.a (ds.length + 1) s'.c) (ds.length + 1) (flatD ds ++ LS.cells x)) (hwr : Wr w w' s.row) (hs' : s'.a = s.a ∨ s'.a = some ⟨w.heap.size, 0, none⟩) : OS w' base s' (ds ++ [x]) := by
  have hnew : ∀ b, b < w.heap.size → s.row ≠ some b → s'.row ≠ some b := fun b hb hn he => by
    rcases hs' with h | h
    · exact hn (by rw [← he]; simp [Sl.row, h])
    · simp [Sl.row, h] at he; omega
  have hag : Agree (fun b => (base ≤ b ∧ b < w.heap.size) ∧ s.row ≠ some b) w w' := hwr.agree (fun i hi => hi.1.2) (fun k hk h => h.2 hk)
  have hup : ∀ i, ((base ≤ i ∧ i < w.heap.size) ∧ s.row ≠ some i) → (base ≤ i ∧ i < w'.heap.size) ∧ s'.row ≠ some i := fun i hi => ⟨⟨hi.1.1, Nat.lt_of_lt_of_le hi.1.2 hwr.grown.size⟩, hnew i hi.1.2 hi.2⟩
  refine ⟨by rw [List.length_append, flatD_app]; simpa [flatD] using hown, fun y hy => ?_, by rw [List.length_append]; simpa using hf⟩
  rcases List.mem_append.1 hy with hy | hy
  · exact ((ho.vals y hy).agree hag).mono hup
  · obtain rfl := List.mem_singleton.1 hy
    exact ((hv.mono fun i hi => ⟨⟨(hF i hi).1, (hF i hi).2.1⟩, (hF i hi).2.2⟩).agree hag).mono hup
theorem OS.shape {w : World} {base : Nat} {s : Sl} {ds : List LS} (ho : OS w base s ds) : RS w (fun b => base ≤ b ∧ b < w.heap.size) (.mk [] (ds.map Prod.fst)) Sl.none s := by
  obtain ⟨b, o, h1, h2, h3⟩ := Rd.of_own ho.own
  refine .mk [] b o (fun j => (ds[j]?.map Prod.snd).getD (Sl.none, Sl.none)) rfl (ES.nil _ _) (by rw [List.length_map]; exact h1) (fun j d hd => ?_) (fun j d hd => ?_) (by have := ho.few; rw [List.length_map]; omega)
  · rw [List.getElem?_map] at hd
    obtain ⟨x, hx, rfl⟩ := Option.map_eq_some_iff.1 hd
    rw [hx]
    have a0 := h3 (j * 2 + 0) _ (by rw [flatD_at hx 0 (by omega)]; rfl)
    have a1 := h3 (j * 2 + 1) _ (by rw [flatD_at hx 1 (by omega)]; rfl)
    exact ⟨a0, by rw [Nat.add_assoc]; exact a1⟩
  · rw [List.getElem?_map] at hd
    obtain ⟨x, hx, rfl⟩ := Option.map_eq_some_iff.1 hd
    rw [hx]
    exact (ho.vals x (List.mem_of_getElem? hx)).mono fun i hi => hi.1
set_option maxRecDepth 100000 in
set_option maxHeartbeats 1000000 in
theorem shape_zero {w : World} {t : PT 0} (hn : IsN w (Lt w.heap.size) 0 t) : Calls Try.prog 12 #[ptr 0 t] w (ShapePost (shOf 0 t) w) := by
  have hx0 : Ext w (w.alloc (.cells #[.slice none 0 0, .slice none 0 0] 25)) := (Ext.refl w).alloc _ _
  have hb0 := Blk.new w 25 #[.slice none 0 0, .slice none 0 0]
  have he := entries_any (hn.ext hx0)
  have hk : ∀ W, Ext w W → W.cell? ⟨addr 0 t, 1, none⟩ = some (.slice none 0 0) := fun W hW => by
    obtain ⟨-, s, xs, hb, -, -⟩ := hn.ext hW
    exact hb.c7.2.1
  have hal : addr 0 t < w.heap.size := by obtain ⟨-, s, xs, hb, -, -⟩ := hn; exact hb.lt
  have HK := Lib.hid hk
  clear hn hk
  go_enter Try.func12, Try.ntmps12
  go_wp2_with fail
  refine he.mono ?_
  intro e w1 hp
  obtain ⟨sy, ys, rfl, hys, hoy, hx1⟩ := hp.base
  have hX1 := hx0.trans hx1
  have hb1 := hb0.ext hx1
  have k1 := HK.out _ (hX1.alloc #[.slice sy.a ys.length sy.c, .slice none 0 0] 25)
  have c0 : w1.cell? ⟨w.heap.size, 0, none⟩ = some (.slice none 0 0) := hb1.cell 0
  have c1 : w1.cell? ⟨w.heap.size, 1, none⟩ = some (.slice none 0 0) := hb1.cell 1
  have f0 := hb1.frozen
  have l0 := hb1.lt
  have hal1 : addr 0 t < w1.heap.size := Nat.lt_of_lt_of_le hal hX1.size
  have HOY := Lib.hid hoy
  have HYS := Lib.hid hys
  have HX1 := Lib.hid hX1
  have HXX := Lib.hid hx1
  clear hp hys hoy hx1 hX1 hb1 hb0 hx0 he
  go_wp2_with fail
  go_loopw [17] (fun i wr => i = .int .i64 0 ∧ wr = w1.alloc (.cells #[.slice sy.a ys.length sy.c, .slice none 0 0] 25)) (fun _ _ => 0)
  case atStart => exact ⟨rfl, rfl⟩
  case round =>
    obtain ⟨rfl, rfl⟩ := hrel
    go_wp2_with fail
    refine bodyPost_ret (v := .agg #[.slice sy.a ys.length sy.c, .slice none 0 0]) (by simp [results, Try.results12, go_sem, c0, c1, f0, l0]) rfl ?_
    have e1 : shOf 0 t = .mk (ys.map LE.ent) [] := by rw [HYS.out]; rfl
    have hE := ((HX1.out.setCell (p := ⟨w.heap.size, 0, none⟩) (Nat.le_refl _) (.slice sy.a ys.length sy.c)).setCell (p := ⟨w.heap.size, 1, none⟩) (Nat.le_refl _) (.slice none 0 0)).alloc #[.slice sy.a ys.length sy.c, .slice none 0 0] 25
    refine ⟨sy, Sl.none, by rw [e1]; simp [Sh.es, Sh.ks], hE, ?_⟩
    rw [e1]
    have hes := HOY.out.es
    have hr : RS w1 (In (w.heap.size + 1) w1.heap.size) (.mk (ys.map LE.ent) []) sy Sl.none := RS.leaf (hes.mono fun i hi => ⟨by have := hi.1; simp at this; omega, hi.2⟩)
    refine (hr.agree (((Agree.setCell w1 ⟨w.heap.size, 0, none⟩ _ ?_).trans (Agree.setCell _ ⟨w.heap.size, 1, none⟩ _ ?_)).trans (Agree.alloc _ _ ?_))).mono fun i hi => ⟨by have := hi.1; omega, by have := hi.2; simp; omega⟩
    · intro h; have := h.1; simp at this; omega
    · intro h; have := h.1; simp at this; omega
    · intro b hb; simp; exact hb.2
set_option maxRecDepth 100000 in
set_option maxHeartbeats 1000000 in
theorem shape_succ {h : Nat} (ih : ∀ (t : PT h) (w : World), IsN w (Lt w.heap.size) h t → OkT h t → Calls Try.prog 12 #[ptr h t] w (ShapePost (shOf h t) w))
    {t : PT (h + 1)} {w : World} (hn : IsN w (Lt w.heap.size) (h + 1) t) (ok : OkT (h + 1) t) : Calls Try.prog 12 #[ptr (h + 1) t] w (ShapePost (shOf (h + 1) t) w) := by
  obtain ⟨i0, hi, hz0, hz1, hz2⟩ := info_parts Try.infoShape
  have hx0 : Ext w (w.alloc (.cells #[.slice none 0 0, .slice none 0 0] 25)) := (Ext.refl w).alloc _ _
  have he := entries_inner (hn.ext hx0)
  have hlen8 := ok.2.1
  have hlen2 := ok.1
  obtain ⟨hal, sk, hbk, hrk, hkn⟩ := hn
  have hal : addr (h + 1) t < w.heap.size := hbk.lt
  have hk0 : w.cell? ⟨addr (h + 1) t, 1, none⟩ = some (.slice sk.a t.2.length sk.c) := hbk.c7.2.1
  obtain ⟨b, o, ha, hb, hlc, hcm, -⟩ := hrk.ptr_at (i := 0) (k := t.2[0]'(by omega)) (List.getElem?_eq_getElem (by omega))
  rw [ha] at hk0
  have HRK := Lib.hid hrk
  have HA := Lib.hid ha
  have HKN := Lib.hid hkn
  have HOK := Lib.hid ok
  have HIH := Lib.hid ih
  clear hrk ha hkn ok ih hbk
  have hz : (w.alloc (.cells #[.slice none 0 0, .slice none 0 0] 25)).heap.size = w.heap.size + 1 := by simp
  have hw1 : ∀ W, Ext w W → W.cell? ⟨addr (h + 1) t, 1, none⟩ = some (.slice (some ⟨b, o, none⟩) t.2.length sk.c) := fun W hW => (hW.cell hal).trans hk0
  have HW1 := Lib.hid hw1
  clear hw1 hk0
  go_enter Try.func12, Try.ntmps12
  go_wp2_with fail
  refine he.mono ?_
  rintro e w1 ⟨rfl, rfl⟩
  have k1 := HW1.out _ (hx0.alloc #[.slice none 0 0, .slice none 0 0] 25)
  have hal1 : addr (h + 1) t < w.heap.size + 1 := by omega
  go_wp2_with fail
  generalize hW0 : World.alloc (World.alloc _ _) _ = W0
  obtain ⟨hxx, hzz, hb0, hb1⟩ := two_blocks w _ _ _ _ W0 hW0
  clear hW0 k1 he hx0 hz
  go_loopw [17] (fun i wr => ∃ (j : Nat) (s : Sl) (ds : List LS), j ≤ t.2.length ∧ i = .int .i64 j ∧ Ext w wr ∧ Blk wr w.heap.size 25 #[.slice none 0 0, .slice none 0 0] ∧ Blk wr (w.heap.size + 1) 25 #[.slice none 0 0, .slice s.a ds.length s.c] ∧ OS wr (w.heap.size + 2) s ds ∧ ds.map Prod.fst = (t.2.take j).map (shOf h))
    (fun i _ => t.2.length - (intOf i).toNat)
  case atStart => exact ⟨0, Sl.none, [], Nat.zero_le _, rfl, hxx, hb0, hb1, OS.nil _ _, rfl⟩
  case round =>
    obtain ⟨j, s, ds, hj, rfl, hx, hR, hS, hO, hD⟩ := hrel
    have hdl : ds.length = j := by have := congrArg List.length hD; simpa [Nat.min_eq_left hj] using this
    clear hxx hzz hb0 hb1
    have HX := Lib.hid hx
    have HR := Lib.hid hR
    have HS := Lib.hid hS
    have HO := Lib.hid hO
    have HD := Lib.hid hD
    have HDL := Lib.hid hdl
    by_cases hlt : j < t.2.length
    · obtain ⟨kid, hkid⟩ : ∃ kid, t.2[j]? = some kid := ⟨_, List.getElem?_eq_getElem hlt⟩
      obtain ⟨b', o', hba, hbl, -, -, hbc⟩ := HRK.out.ptr_at hkid
      rw [HA.out] at hba
      obtain ⟨rfl, rfl⟩ : b = b' ∧ o = o' := by simpa using hba
      have kc : wr.cell? ⟨b, o + j, none⟩ = some (ptr h kid) := (hx.cell hbl).trans hbc
      have hjl : (j : Int) < (t.2.length : Int) := by omega
      have hkm := List.mem_of_getElem? hkid
      have c1 : wr.cell? ⟨w.heap.size + 1, 1, none⟩ = some (.slice s.a ds.length s.c) := hS.cell 1
      have fS := hS.frozen
      have lS := hS.lt
      have hfew : ds.length + 1 ≤ 1000 := by omega
      have hic : ∀ W, Ext wr W → Calls Try.prog 12 #[ptr h kid] W (ShapePost (shOf h kid) W) := fun W hW => HIH.out kid W ((HKN.out kid hkm).ext (hx.trans hW)) (HOK.out.2.2 kid hkm).1
      have hown : ∀ W, Ext wr W → W.ownsRow (w.heap.size + 2) 25 2 (.slice s.a ds.length s.c) ds.length (flatD ds) := fun W hW => (hO.ext hW).own
      have HIC := Lib.hid hic
      have HK := Lib.hid hkid
      have HOWN := Lib.hid hown
      clear hown
      have h63 : ds.length + 1 ≤ maxLen := by unfold maxLen; omega
      have hby : (ds.length + 1) * 48 ≤ 140737488355328 := by omega
      have hbs : w.heap.size + 2 ≤ wr.heap.size := by omega
      have hSn : s.row ≠ some (w.heap.size + 1) := fun e => by have := (own_row hO.own e).1; omega
      have cS : ∀ w2, Ext wr.drew w2 → ∀ (w3 : World) (c : Array Value), Wr (w2.alloc (.cells c 25)) w3 s.row → w3.cell? ⟨w.heap.size + 1, 1, none⟩ = some (.slice s.a ds.length s.c) := fun w2 hx2 w3 c hw =>
        (World.cell?_of_block (w := w2.alloc (.cells c 25)) (a := ⟨w.heap.size + 1, 1, none⟩) (hw.grown.block (w.heap.size + 1) (by have := hx2.size; rw [World.size_drew] at this; rw [World.size_alloc]; omega) (fun e => hSn e.symm))).trans
          ((World.cell?_alloc_lt w2 _ _ (Nat.lt_of_lt_of_le lS hx2.size)).trans ((hx2.cell lS).trans c1))
      have fS' : ∀ w2, Ext wr.drew w2 → ∀ (w3 : World) (c : Array Value), Wr (w2.alloc (.cells c 25)) w3 s.row → ∀ o, w3.frozen? ⟨w.heap.size + 1, o, none⟩ = false := fun w2 hx2 w3 c hw o =>
        (hw.fz _ _).trans ((fz_alloc _ _ _ _ _).trans ((hx2.frozen lS).trans (fS o)))
      generalize hn : ds.length = n at *
      have HN := Lib.hid hn
      clear hic hkid hba hbc hkm hx hR hS hO hD hdl hn
      go_wp2_with fail
      go_region_law (first
        | (refine step_append_x _ rfl (.tmp 22) (.tmp 25) 23 rfl (w.heap.size + 2) 25 i0 _ 2 48 Try.underlying23 hi hz0 hz1 hz2 rfl (by decide) s n (flatD ds) (by rfl) (HOWN.out _ (((Ext.refl wr).drew.trans hx2).alloc _ _)) (fun b => b = w2.heap.size) ⟨some ⟨w2.heap.size, 0, none⟩, 1⟩ 1 (LS.cells (shOf h kid, se, sk2)) (by rfl) (Rd.block (Blk.new w2 _ _) (by decide) rfl) (LS.one _) h63 hby (by rw [World.size_alloc]; omega) ?_; intro s3 w3 hown3 hwr3 hs3; have c3 := cS3 w3 hwr3; have f3 := fS3 w3 hwr3)
        | (go_simp; go_at_call 12; refine (HIC.out _ ?_).mono ?_; (exact (Ext.refl _).drew); rintro e w2 ⟨se, sk2, rfl, hx2, hr2⟩; have c2 : w2.cell? ⟨w.heap.size + 1, 1, none⟩ = some (.slice s.a n s.c) := (hx2.cell lS).trans c1; have l2 := Nat.lt_of_lt_of_le lS hx2.size; have hbs2 : w.heap.size + 2 ≤ w2.heap.size := Nat.le_trans hbs hx2.size; have cS3 := fun (w3 : World) (hw : Wr (w2.alloc (.cells #[.slice se.a (shOf h kid).es.length se.c, .slice sk2.a (shOf h kid).ks.length sk2.c] 25)) w3 s.row) => cS w2 hx2 w3 _ hw; have fS3 := fun (w3 : World) (hw : Wr (w2.alloc (.cells #[.slice se.a (shOf h kid).es.length se.c, .slice sk2.a (shOf h kid).ks.length sk2.c] 25)) w3 s.row) => fS' w2 hx2 w3 _ hw))
      all_goals
        have hXa : Ext wr (w2.alloc (.cells #[.slice se.a (shOf h kid).es.length se.c, .slice sk2.a (shOf h kid).ks.length sk2.c] 25)) := (((Ext.refl wr).drew).trans hx2).alloc _ _
        have hOa := HO.out.ext hXa
        have hrow : ∀ i, s.row = some i → w.heap.size + 2 ≤ i ∧ i < wr.heap.size := fun i hi => own_row HO.out.own hi
        have hra := (hr2.mono (G := In wr.heap.size w2.heap.size) fun i hi => hi).agree (Agree.alloc w2 (.cells #[.slice se.a (shOf h kid).es.length se.c, .slice sk2.a (shOf h kid).ks.length sk2.c] 25) (fun b hb => hb.2))
        have hsz2 : (w2.alloc (.cells #[.slice se.a (shOf h kid).es.length se.c, .slice sk2.a (shOf h kid).ks.length sk2.c] 25)).heap.size = w2.heap.size + 1 := by simp
        have hO3 : OS w3 (w.heap.size + 2) s3 (ds ++ [(shOf h kid, se, sk2)]) := OS.snoc hOa (F := In wr.heap.size w2.heap.size) hra (fun i hi => ⟨Nat.le_trans hbs hi.1, by rw [hsz2]; have := hi.2; omega, fun e => by have := hrow i e; have := hi.1; omega⟩) (by rw [HN.out]; exact hfew) (by rw [HN.out]; exact hown3) hwr3 (hs3.imp_right fun h => h.1)
        have hag : Agree (fun b => b < wr.heap.size ∧ s.row ≠ some b) wr w3 := (hXa.agree (F := fun b => b < wr.heap.size ∧ s.row ≠ some b) fun b hb => hb.1).trans (hwr3.agree (fun i hi => Nat.lt_of_lt_of_le hi.1 hXa.size) (fun k hk e => e.2 hk))
        have hR3 : Blk w3 w.heap.size 25 #[.slice none 0 0, .slice none 0 0] := HR.out.agree hag ⟨HR.out.lt, fun e => by have := hrow _ e; omega⟩
        have hS3 : Blk w3 (w.heap.size + 1) 25 #[.slice none 0 0, .slice s.a n s.c] := HS.out.agree hag ⟨lS, hSn⟩
        have hE3 : Ext w w3 := (HX.out.trans hXa).wr hwr3 (fun i hi => by have := hrow i hi; omega)
        have hR4 := hR3.far (p := ⟨w.heap.size + 1, 1, none⟩) (by simp) (.slice s3.a (n + 1) s3.c)
        have hS4 : Blk (w3.setCell ⟨w.heap.size + 1, 1, none⟩ (.slice s3.a (n + 1) s3.c)) (w.heap.size + 1) 25 #[.slice none 0 0, .slice s3.a (n + 1) s3.c] := hS3.set_ 1 _
        have hE4 := hE3.setCell (p := ⟨w.heap.size + 1, 1, none⟩) (show w.heap.size ≤ w.heap.size + 1 by omega) (.slice s3.a (n + 1) s3.c)
        have hO4 := hO3.agree (Agree.setCell w3 ⟨w.heap.size + 1, 1, none⟩ (.slice s3.a (n + 1) s3.c) (fun h => by have := h.1; simp at this)) (by simp)
        generalize w3.setCell ⟨w.heap.size + 1, 1, none⟩ (.slice s3.a (n + 1) s3.c) = W4 at *
        have H1 := Lib.hid hR4
        have H2 := Lib.hid hS4
        have H3 := Lib.hid hE4
        have H4 := Lib.hid hO4
        clear hXa hOa hrow hra hsz2 hO3 hag hR3 hS3 hE3 hR4 hS4 hE4 hO4 cS3 fS3 c3 f3 hs3 hwr3 hown3 hr2 hx2 cS fS' c2
        go_wp2_with fail
        go_roundw
        case rel =>
          have hdl := HDL.out
          have hnn := HN.out
          exact ⟨j + 1, s3, ds ++ [(shOf h kid, se, sk2)], hlt, by go_num, H3.out, H1.out, by rw [List.length_append, hnn]; exact H2.out, H4.out, by rw [List.map_append, HD.out, List.take_add_one, HK.out]; simp⟩
        case measure => simp [intOf]; omega
    · obtain rfl : j = t.2.length := by omega
      have c0 : wr.cell? ⟨w.heap.size, 0, none⟩ = some (.slice none 0 0) := hR.cell 0
      have c1 : wr.cell? ⟨w.heap.size, 1, none⟩ = some (.slice none 0 0) := hR.cell 1
      have d0 : wr.cell? ⟨w.heap.size + 1, 0, none⟩ = some (.slice none 0 0) := hS.cell 0
      have d1 : wr.cell? ⟨w.heap.size + 1, 1, none⟩ = some (.slice s.a ds.length s.c) := hS.cell 1
      have f0 := hR.frozen
      clear hx hR hS hO hD hdl
      go_wp2_with fail
      refine bodyPost_ret (v := .agg #[.slice none 0 0, .slice s.a ds.length s.c]) (by simp [results, Try.results12, go_sem, c0, c1, f0]) rfl ?_
      have e1 : shOf (h + 1) t = .mk [] (ds.map Prod.fst) := by rw [HD.out, List.take_length]; rfl
      have hE := (HX.out.setCell (p := ⟨w.heap.size, 0, none⟩) (Nat.le_refl _) (.slice none 0 0)).setCell (p := ⟨w.heap.size, 1, none⟩) (Nat.le_refl _) (.slice s.a ds.length s.c)
      refine ⟨Sl.none, s, by rw [e1]; simp [Sh.es, Sh.ks], hE, ?_⟩
      rw [e1]
      refine (HO.out.shape.agree ((Agree.setCell wr ⟨w.heap.size, 0, none⟩ _ ?_).trans (Agree.setCell _ ⟨w.heap.size, 1, none⟩ _ ?_))).mono fun i hi => ⟨by have := hi.1; omega, by have := hi.2; simpa using this⟩
      · intro h; have h1 : w.heap.size + 2 ≤ w.heap.size := h.1; omega
      · intro h; have h1 : w.heap.size + 2 ≤ w.heap.size := h.1; omega
theorem shape_any : ∀ (h : Nat) (t : PT h) (w : World), IsN w (Lt w.heap.size) h t → OkT h t → Calls Try.prog 12 #[ptr h t] w (ShapePost (shOf h t) w)
  | 0, t, w, hn, _ => shape_zero hn
  | h + 1, t, w, hn, ok => shape_succ (shape_any h) hn ok
end Go.Proofs.Ytohajcflklejjaa
namespace Go.Proofs.Ytohajcflklejjaa
open Go.RowKit
set_option linter.unusedVariables false
set_option linter.unusedSimpArgs false
def BuildPost (es : List Ent) (w : World) (e : Ending) (w' : World) : Prop :=
  ∃ T, e = .returned (treeV T) ∧ BuiltR es T ∧ IsT w' (In w.heap.size w'.heap.size) T ∧ Ext w w'
theorem rootV_ptr (T : RT) : ∃ p, rootV T = .pointer p := by
  match T with
  | none => exact ⟨_, rfl⟩
  | some ⟨h, t⟩ => exact ⟨_, rfl⟩
theorem ES.ext {w w' : World} {s : Sl} {xs : List LE} (h : ES w (Lt w.heap.size) s xs) (he : Ext w w') : ES w' (Lt w'.heap.size) s xs := (h.agree (he.agree fun _ h => h)).mono fun _ hi => Nat.lt_of_lt_of_le hi he.size
set_option maxRecDepth 100000 in
set_option maxHeartbeats 1000000 in
theorem build_any {w : World} {s : Sl} {xs : List LE} (hs : ES w (Lt w.heap.size) s xs) (hl : xs.length ≤ 100000) : Calls Try.prog 15 #[.slice s.a xs.length s.c] w (BuildPost (xs.map LE.ent) w) := by
  have HS := Lib.hid hs
  clear hs
  go_enter Try.func15, Try.ntmps15
  go_wp2_with fail
  generalize hW0 : World.alloc (World.alloc _ _) _ = W0
  obtain ⟨hxx, hzz, hb0, hb1⟩ := two_blocks w _ _ _ _ W0 hW0
  clear hW0
  go_loopw [8] (fun i wr => ∃ (j : Nat) (T : RT) (p : Option Addr), j ≤ xs.length ∧ i = .int .i64 j ∧ Ext w wr ∧ Blk wr w.heap.size 32 #[.pointer none] ∧ Blk wr (w.heap.size + 1) 32 #[.pointer p] ∧ Hid (rootV T = .pointer p) ∧ BuiltR ((xs.take j).map LE.ent) T ∧ IsT wr (In (w.heap.size + 2) wr.heap.size) T)
    (fun i _ => xs.length - (intOf i).toNat)
  case atStart => exact ⟨0, none, none, Nat.zero_le _, rfl, hxx, hb0, hb1, Lib.hid rfl, .nil, trivial⟩
  case round =>
    obtain ⟨j, T, p, hj, rfl, hx, hR, hS, HP, hB, hT⟩ := hrel
    clear hxx hzz hb0 hb1
    have HX := Lib.hid hx
    have HR := Lib.hid hR
    have HB := Lib.hid hB
    have HT := Lib.hid hT
    have HSS := Lib.hid hS
    have c0 : wr.cell? ⟨w.heap.size + 1, 0, none⟩ = some (.pointer p) := hS.cell 0
    have fS := hS.frozen
    have lS := hS.lt
    by_cases hlt : j < xs.length
    · obtain ⟨x, hxj⟩ : ∃ x, xs[j]? = some x := ⟨_, List.getElem?_eq_getElem hlt⟩
      obtain ⟨b, o, ha, hbl, hlc, hcm, k0, hv, hrv, hkm⟩ := (HS.out.ext hx).at hxj
      obtain ⟨v0, v1, v2, v3, v4, v5⟩ := hv.m
      have hil' : (j : Int) < (xs.length : Int) := by omega
      have hok := hB.both
      have hpt : ∀ W, Ext wr W → Calls Try.prog 25 #[.agg #[.pointer p], .string x.k, aggV x.v x.sl x.so] W (PutPost (In (w.heap.size + 2) wr.heap.size) T x.k x.v W) := fun W hW => by
        rw [← HP.out]
        exact put_any (fun b hb => Nat.lt_of_lt_of_le hb.2 hW.size) (hT.agree (hW.agree fun b hb => hb.2)) hok.1 (by
          rw [hok.2]
          have := putAll_len ((xs.take j).map LE.ent) []
          simp only [List.length_map, List.length_take, List.length_nil] at this
          omega) hkm ((hrv.agree (hW.agree fun b hb => hb)).mono fun b hb => Nat.lt_of_lt_of_le hb hW.size)
      obtain ⟨sa, sc⟩ := s
      dsimp only at ha
      subst ha
      have HPT := Lib.hid hpt
      have HXJ := Lib.hid hxj
      clear hx hR hS hB hT hxj hv hrv hok hpt
      go_wp2_with fail
      refine (HPT.out _ ((Ext.refl wr).alloc _ _)).mono ?_
      rintro e w2 ⟨T2, rfl, hp2, hT2, hx2⟩
      obtain ⟨p2, hq2⟩ := rootV_ptr T2
      have HQ2 := Lib.hid hq2
      dsimp only [treeV]
      rw [hq2]
      clear hq2
      have hX2 : Ext wr w2 := ((Ext.refl wr).alloc _ _).trans hx2
      have d0 : w2.cell? ⟨w.heap.size + 1, 0, none⟩ = some (.pointer p) := (hX2.cell lS).trans c0
      have f2 : ∀ o, w2.frozen? ⟨w.heap.size + 1, o, none⟩ = false := fun o => (hX2.frozen lS).trans (fS o)
      have hE := (HX.out.trans hX2).setCell (p := ⟨w.heap.size + 1, 0, none⟩) (show w.heap.size ≤ w.heap.size + 1 by omega) (.pointer p2)
      have hR2 := (HR.out.ext hX2).far (p := ⟨w.heap.size + 1, 0, none⟩) (by simp) (.pointer p2)
      have hS2 : Blk (w2.setCell ⟨w.heap.size + 1, 0, none⟩ (.pointer p2)) (w.heap.size + 1) 32 #[.pointer p2] := (HSS.out.ext hX2).set_ 0 _
      have hT3 : IsT (w2.setCell ⟨w.heap.size + 1, 0, none⟩ (.pointer p2)) (In (w.heap.size + 2) (w2.setCell ⟨w.heap.size + 1, 0, none⟩ (.pointer p2)).heap.size) T2 := by
        have hs2 := hX2.size
        have hlt := lS
        have hm : ∀ i, Up (In (w.heap.size + 2) wr.heap.size) (wr.alloc (.cells #[.string x.k, .int .i64 x.v.kind, .bool x.v.b, .int .i64 x.v.i, .string x.v.t, .slice x.sl.a x.v.l.length x.sl.c, .slice x.so.a x.v.ok.length x.so.c] 63)) w2 i → In (w.heap.size + 2) w2.heap.size i := fun i hi => by
          rcases hi with hi | hi
          · exact ⟨hi.1, Nat.lt_of_lt_of_le hi.2 hs2⟩
          · have := hi.1
            simp at this
            exact ⟨by omega, hi.2⟩
        refine ((hT2.mono hm).agree (Agree.setCell w2 ⟨w.heap.size + 1, 0, none⟩ _ (fun h => by have h1 : w.heap.size + 2 ≤ w.heap.size + 1 := h.1; omega))).mono fun i hi => ⟨hi.1, by simpa using hi.2⟩
      have HB2 := Lib.hid (BuiltR.snoc HB.out hp2)
      have H1 := Lib.hid hE
      have H2 := Lib.hid hR2
      have H3 := Lib.hid hS2
      have H4 := Lib.hid hT3
      clear hp2 hT2 hx2 hX2 hE hR2 hS2 hT3
      go_wp2_with fail
      go_roundw
      case rel => exact ⟨j + 1, T2, p2, hlt, by go_num, H1.out, H2.out, H3.out, HQ2, by rw [List.take_add_one, HXJ.out, List.map_append]; exact HB2.out, H4.out⟩
      case measure => simp [intOf]; omega
    · obtain rfl : j = xs.length := by omega
      have r0 : wr.cell? ⟨w.heap.size, 0, none⟩ = some (.pointer none) := hR.cell 0
      have fR := hR.frozen
      clear hx hR hS hB hT
      go_wp2_with fail
      have q0 : (wr.setCell ⟨w.heap.size, 0, none⟩ (.pointer p)).cell? ⟨w.heap.size, 0, none⟩ = some (.pointer p) := World.cell?_setCell_same wr _ _ r0
      refine bodyPost_ret (v := .agg #[.pointer p]) (by simp [results, Try.results15, go_sem, q0]) rfl ?_
      refine ⟨T, by rw [treeV, HP.out], by have := HB.out; rwa [List.take_length] at this, ?_, HX.out.setCell (p := ⟨w.heap.size, 0, none⟩) (Nat.le_refl _) _⟩
      exact (HT.out.agree (Agree.setCell wr ⟨w.heap.size, 0, none⟩ _ (fun h => by have h1 : w.heap.size + 2 ≤ w.heap.size := h.1; omega))).mono fun i hi => ⟨by have := hi.1; omega, by simpa using hi.2⟩
end Go.Proofs.Ytohajcflklejjaa
namespace Go.Proofs.Ytohajcflklejjaa
open Go.RowKit
set_option linter.unusedVariables false
set_option linter.unusedSimpArgs false
def letterL (i : Nat) : LE := ⟨(letterE i).1, (letterE i).2, Sl.none, Sl.none⟩
def lettersL (n : Nat) : List LE := (List.range n).map letterL
theorem lettersL_ent (n : Nat) : (lettersL n).map LE.ent = lettersE n := by simp [lettersL, lettersE, letterL, LE.ent]
def LettersPost (n : Nat) (w : World) (e : Ending) (w' : World) : Prop := ∃ s, e = .returned (.slice s.a n s.c) ∧ OE w' w.heap.size s (lettersL n) ∧ Ext w w'
set_option maxRecDepth 100000 in
set_option maxHeartbeats 1000000 in
theorem letters_any (w : World) (n : Nat) (hn : n ≤ 26) : Calls Try.prog 16 #[.int .i64 n] w (LettersPost n w) := by
  obtain ⟨i0, hi, hz0, hz1, hz2⟩ := info_parts Try.infoEntry
  go_enter Try.func16, Try.ntmps16
  go_wp2_with fail
  go_loopw [3, 4] (fun v i wr => ∃ (j : Nat) (s : Sl), j ≤ n ∧ i = .int .i64 j ∧ v = .slice s.a j s.c ∧ Ext w wr ∧ OE wr w.heap.size s (lettersL j)) (fun _ i _ => n - (intOf i).toNat)
  case atStart => exact ⟨0, Sl.none, Nat.zero_le _, rfl, rfl, Ext.refl _, OE.nil _ _⟩
  case round =>
    obtain ⟨j, s, hj, rfl, rfl, hx, ho⟩ := hrel
    have HX := Lib.hid hx
    have HO := Lib.hid ho
    clear hx ho
    by_cases hlt : j < n
    · have hjn : (j : Int) < (n : Int) := by omega
      have hj26 : (j : Int) < 26 := by omega
      have hcv : (convert 77 9 (.slice (some ⟨wr.heap.size, 0, none⟩) 1 1)).run Try.prog (wr.alloc (.cells #[.int .u8 (97 + (j : Int))] 5)) = .ok (.string (letterE j).1) (wr.alloc (.cells #[.int .u8 (97 + (j : Int))] 5)) :=
        run_convert_bytes_back (P := Try.prog) _ 77 9 5 ⟨wr.heap.size, 0, none⟩ 1 [UInt8.ofNat (97 + j)] Try.underlying77 Try.underlying5 Try.underlying9 (fun i hi => by
          obtain rfl : i = 0 := by simpa using hi
          rw [add_at, Nat.zero_add, (Blk.new wr 5 #[.int .u8 (97 + (j : Int))]).cell]
          have : (UInt8.ofNat (97 + j)).toNat = 97 + j := by rw [UInt8.toNat_ofNat']; omega
          show some (Value.int .u8 (97 + (j : Int))) = some (.int .u8 ((UInt8.ofNat (97 + j)).toNat : Int))
          rw [this]; simp)
      have h63 : j + 1 ≤ maxLen := by unfold maxLen; omega
      have hby : (j + 1) * 104 ≤ 140737488355328 := by omega
      have hll : (lettersL j).length = j := by simp [lettersL]
      have hown : ∀ W, Ext wr W → W.ownsRow w.heap.size 63 7 (.slice s.a j s.c) j (flatE (lettersL j)) := fun W hW => by have := (HO.out.ext hW).own; rwa [hll] at this
      have HOWN := Lib.hid hown
      have HLL := Lib.hid hll
      have hbs := HX.out.size
      clear hown hll
      go_wp2_with (at_builtin; refine wpList_append_x _ rfl (.tmp 14) (.tmp 23) 22 rfl w.heap.size 63 i0 _ 7 104 Try.underlying22 hi hz0 hz1 hz2 rfl (by decide) s j (flatE (lettersL j)) rfl (HOWN.out _ (((Ext.refl wr).alloc _ _).alloc _ _)) (fun b => b = wr.heap.size + 1) ⟨some ⟨wr.heap.size + 1, 0, none⟩, 1⟩ 1 (LE.cells (letterL j)) rfl (by
          have h := Blk.new (wr.alloc (.cells #[.int .u8 (97 + (j : Int))] 5)) 63 (LE.cells (letterL j)).toArray
          rw [World.size_alloc] at h
          exact Rd.block h (by decide) rfl) (LE.one _) h63 hby (by rw [World.size_alloc, World.size_alloc]; omega) ?_; intro s3 w3 hown3 hwr3 hs3)
      have hXa : Ext wr ((wr.alloc (.cells #[.int .u8 (97 + (j : Int))] 5)).alloc (.cells (LE.cells (letterL j)).toArray 63)) := ((Ext.refl wr).alloc _ _).alloc _ _
      have hoa := HO.out.ext hXa
      have hs2 : s3.row = s.row ∨ ∃ b, s3.row = some b ∧ ((wr.alloc (.cells #[.int .u8 (97 + (j : Int))] 5)).alloc (.cells (LE.cells (letterL j)).toArray 63)).heap.size ≤ b := by
        rcases hs3 with h | ⟨h, -⟩
        · exact .inl (by simp [Sl.row, h])
        · refine .inr ⟨_, ?_, Nat.le_refl _⟩
          simp [Sl.row, h]
      have ho3 : OE w3 w.heap.size s3 (lettersL j ++ [letterL j]) := OE.append (F := fun _ => False) hoa (fun x hx => by
        obtain rfl := List.mem_singleton.1 hx
        exact ⟨RV.flat _ _ _ _ _ _ (by decide) (by
          exact WalkArith.wf_i64 ⟨by omega, by omega⟩) (by decide), by show (letterE j).1.size ≤ maxLen; exact (by decide : (1 : Nat) ≤ maxLen)⟩) (fun b hb => hb.elim) (by rw [HLL.out]; exact hby) (by rw [HLL.out]; exact hown3) hwr3 hs2
      have hE := (HX.out.trans hXa).wr hwr3 (fun i hi => (own_row HO.out.own hi).1)
      have HE := Lib.hid hE
      have HO3 := Lib.hid ho3
      clear hXa hoa hs2 ho3 hE hs3 hwr3 hown3 hcv
      go_roundw
      case rel => exact ⟨j + 1, s3, hlt, by go_num, rfl, HE.out, by rw [show lettersL (j + 1) = lettersL j ++ [letterL j] from by simp [lettersL, List.range_succ]]; exact HO3.out⟩
      case measure => simp [intOf]; omega
    · have hjn : ¬ (j : Int) < (n : Int) := by omega
      obtain rfl : j = n := by omega
      go_wp2_with fail
      go_ret
      exact ⟨s, rfl, HO.out, HX.out⟩
def Nine (w : World) (e : Ending) (w' : World) : Prop := ∃ s, e = .returned (.slice s.a 9 s.c) ∧ ES w' (Lt w'.heap.size) s (lettersL 9) ∧ Ext w w'
theorem letters_nine (w : World) : Calls Try.prog 16 #[.int .i64 9] w (Nine w) :=
  (letters_any w 9 (by decide)).mono fun e w' ⟨s, h1, h2, h3⟩ => ⟨s, h1, h2.es.mono fun b hb => hb.2, h3⟩
def BuildNine (w : World) (e : Ending) (w' : World) : Prop := ∃ (c : PT 1) (x y : PT 0), e = .returned (.agg #[.pointer (some ⟨addr 1 c, 0, none⟩)]) ∧ c.2 = [x, y] ∧ x.2.length = 4 ∧ y.2.length = 5 ∧ OkT 1 c ∧ (ents 1 c).length = 9 ∧ IsN w' (Lt w'.heap.size) 1 c ∧ Ext w w'
theorem build_nine {w : World} {s : Sl} (hs : ES w (Lt w.heap.size) s (lettersL 9)) : Calls Try.prog 15 #[.slice s.a 9 s.c] w (BuildNine w) := by
  have h := build_any hs (by decide)
  refine h.mono ?_
  rintro e w' ⟨T, rfl, hB, hT, hx⟩
  rw [lettersL_ent] at hB
  obtain ⟨c, x, y, rfl, h1, h2, h3⟩ := built_nine hB (lettersE_sorted 9 (by decide)) rfl
  exact ⟨c, x, y, rfl, h1, h2, h3, hB.both.1.1, by
    show (c.2.flatMap (ents 0)).length = 9
    rw [h1]
    show (x.2 ++ (y.2 ++ [])).length = 9
    simp [h2, h3], hT.mono fun b hb => hb.2, hx⟩
set_option maxRecDepth 100000 in
set_option maxHeartbeats 1000000 in
theorem known07 (w : World) : Calls Try.prog 5 #[] w fun e w' => e = .returned (.bool true) ∧ Ext w w' := by
  go_enter Try.func5, Try.ntmps5
  go_wp2_with fail
  refine (letters_nine w).mono ?_
  rintro e w1 ⟨s, rfl, hs, hx1⟩
  go_wp2_with fail
  refine (build_nine hs).mono ?_
  rintro e w2 ⟨c, x, y, rfl, hc, hx, hy, ok, hl, hN, hx2⟩
  have hX2 := hx1.trans hx2
  have HX2 := Lib.hid hX2
  have hb2 := Blk.new w2 32 #[.pointer (some ⟨addr 1 c, 0, none⟩)]
  have hE2 : Ext w2 (w2.alloc (.cells #[.pointer (some ⟨addr 1 c, 0, none⟩)] 32)) := (Ext.refl _).alloc _ _
  have HN := Lib.hid hN
  have HC := Lib.hid hc
  have HXX := Lib.hid hx
  have HYY := Lib.hid hy
  have HOK := Lib.hid ok
  have HL := Lib.hid hl
  clear hs hx1 hx2 hX2 hN hc hx hy ok hl
  go_wp2_with fail
  generalize w2.alloc (.cells #[.pointer (some ⟨addr 1 c, 0, none⟩)] 32) = W0 at *
  have HE2 := Lib.hid hE2
  have c0 : W0.cell? ⟨w2.heap.size, 0, none⟩ = some (.pointer (some ⟨addr 1 c, 0, none⟩)) := hb2.cell 0
  have l0 := hb2.lt
  clear hb2 hE2
  refine (treeRoot_any W0 _).mono ?_
  rintro e w3 ⟨rfl, hx3⟩
  have c1 := (hx3.cell (o := 0) l0).trans c0
  have l1 := Nat.lt_of_lt_of_le l0 hx3.size
  have hT3 : IsT w3 (Lt w3.heap.size) (some ⟨1, c⟩) := HN.out.ext (HE2.out.trans hx3)
  have hlen := treeLen_any (fun b hb => hb) hT3
  rw [show entsT (some ⟨1, c⟩) = ents 1 c from rfl, HL.out] at hlen
  have hlen : Calls Try.prog 17 #[.agg #[.pointer (some ⟨addr 1 c, 0, none⟩)]] w3 fun e w' => e = .returned (.int .i64 9) ∧ Ext w3 w' := hlen
  have HX3 := Lib.hid (HE2.out.trans hx3)
  clear hx3 hT3 c0 l0
  go_wp2_with fail
  refine hlen.mono ?_
  rintro e w4 ⟨rfl, hx4⟩
  have c2 := (hx4.cell (o := 0) l1).trans c1
  have l2 := Nat.lt_of_lt_of_le l1 hx4.size
  have HX4 := Lib.hid (HX3.out.trans hx4)
  clear hx4 c1 l1 hlen
  go_wp2_with fail
  refine (treeRoot_any w4 _).mono ?_
  rintro e w5 ⟨rfl, hx5⟩
  have hX5 := HX4.out.trans hx5
  have hsh := shape_any 1 c w5 (HN.out.ext hX5) HOK.out
  have HX5 := Lib.hid hX5
  have e1 : shOf 1 c = .mk [] [.mk x.2 [], .mk y.2 []] := by
    show Sh.mk [] (c.2.map (shOf 0)) = _
    rw [HC.out]; rfl
  rw [e1] at hsh
  have HSH := Lib.hid hsh
  clear hx5 hX5 c2 l2 e1 hsh
  go_wp2_with fail
  have hsh : Calls Try.prog 12 #[.pointer (some ⟨addr 1 c, 0, none⟩)] w5 (ShapePost (.mk [] [.mk x.2 [], .mk y.2 []]) w5) := HSH.out
  refine hsh.mono ?_
  rintro e w6 ⟨se, sk, rfl, hx6, hr6⟩
  obtain ⟨b, o, s1, s2, ha, hb, hlc, hcm, hsc, -⟩ := hr6.kid (j := 0) (k := .mk x.2 []) rfl
  obtain ⟨b', o', s1', s2', ha', -, -, -, hsc', -⟩ := hr6.kid (j := 1) (k := .mk y.2 []) rfl
  obtain ⟨sa, sc⟩ := sk
  dsimp only at ha ha'
  subst ha
  obtain ⟨rfl, rfl⟩ : b = b' ∧ o = o' := by simpa using ha'
  have k0 : w6.cell? ⟨b, o, none⟩ = some (.slice s1.a 4 s1.c) := by have := hsc.c0; simp only [Sh.es, HXX.out, Nat.zero_mul, Nat.add_zero] at this; exact this
  have k1 : w6.cell? ⟨b, o + 2, none⟩ = some (.slice s1'.a 5 s1'.c) := by have := hsc'.c0; simp only [Sh.es, HYY.out, Nat.one_mul] at this; exact this
  have hbl : b < w6.heap.size := hb.2
  have HX6 := Lib.hid (HX5.out.trans hx6)
  have hcm' : (2 : Nat) ≤ sc := hlc
  clear hsh hx6 hr6 hsc hsc' ha'
  go_wp2_with fail
  go_ret
  exact ⟨rfl, (HX2.out.trans HX6.out).alloc _ _⟩
end Go.Proofs.Ytohajcflklejjaa
namespace Go.Proofs.Ytohajcflklejjaa
open Go.RowKit
set_option linter.unusedVariables false
set_option maxRecDepth 100000 in
set_option maxHeartbeats 800000 in
theorem rising_no {w : World} {s : Sl} {xs : List LE} (hs : ES w (Lt w.heap.size) s xs) (hr : ¬ risingN xs) :
    Calls Try.prog 44 #[.slice s.a xs.length s.c, .func (.func 45) #[] #[]] w fun e w' => e = .returned (.bool false) ∧ Ext w w' := by
  have hfew := hs.few
  have HS := Lib.hid hs
  have HR := Lib.hid hr
  clear hs hr
  go_enter Try.func44, Try.ntmps44
  go_wp2_with fail
  go_loopw [5] (fun q wr => ∃ m : Nat, (m + 1 ≤ xs.length ∨ m = 0) ∧ q = .int .i64 ((m : Int) + 1) ∧ (∀ i x y, i < m → xs[i]? = some x → xs[i + 1]? = some y → klt x.k y.k = true) ∧ Ext w wr) (fun q _ => xs.length - (intOf q).toNat)
  case atStart => exact ⟨0, .inr rfl, rfl, fun i x y h => absurd h (Nat.not_lt_zero _), Ext.refl _⟩
  case round =>
    obtain ⟨m, hj, rfl, hup, hx⟩ := hrel
    have HU := Lib.hid hup
    clear hup
    by_cases hlt : m + 1 < xs.length
    · obtain ⟨x, hxm⟩ : ∃ x, xs[m]? = some x := ⟨_, List.getElem?_eq_getElem (by omega)⟩
      obtain ⟨y, hym⟩ : ∃ y, xs[m + 1]? = some y := ⟨_, List.getElem?_eq_getElem hlt⟩
      obtain ⟨b, o, ha, hbo, hlc, hcm, hk0, hv, -⟩ := HS.out.at hxm
      obtain ⟨b', o', ha', -, -, -, hk0', hv', -⟩ := HS.out.at hym
      rw [ha] at ha'
      simp only [Option.some.injEq, Addr.mk.injEq, and_true] at ha'
      obtain ⟨rfl, rfl⟩ := ha'
      have hag : Agree (Lt w.heap.size) w wr := hx.agree fun _ h => h
      obtain ⟨v0, v1, v2, v3, v4, v5⟩ := (hv.agree hag hbo).m
      have vk := (hag.cell hbo).trans hk0
      obtain ⟨u0, u1, u2, u3, u4, u5⟩ := (hv'.agree hag hbo).m
      have uk := (hag.cell hbo).trans hk0'
      obtain ⟨kb, hkk⟩ : ∃ kb, klt x.k y.k = kb := ⟨_, rfl⟩
      have HK := Lib.hid hkk
      have HXY := Lib.hid (And.intro hxm hym)
      rw [ha]
      have hm1 : (m : Int) + 1 < (xs.length : Int) := by omega
      have hm0 : (m : Int) < (xs.length : Int) := by omega
      have hw1 : IntKind.i64.wrap (m : Int) = (m : Int) := by rw [IntKind.wrap_i64]; omega
      have hm2 : (0 : Int) ≤ (m : Int) + 1 := by omega
      have ht2 : ((m : Int) + 1).toNat = m + 1 := by omega
      clear hxm hym hk0 hk0' hv hv' hag ha hkk
      go_wp2_with fail
      have hbw : b < wr.heap.size := Nat.lt_of_lt_of_le hbo hx.size
      go_region_held3 (fun w' => w'.cell? ⟨b, o + m * 7, none⟩ = some (.string x.k) ∧ w'.cell? ⟨b, o + m * 7 + 1, none⟩ = some (.int .i64 x.v.kind) ∧ w'.cell? ⟨b, o + m * 7 + 2, none⟩ = some (.bool x.v.b) ∧ w'.cell? ⟨b, o + m * 7 + 3, none⟩ = some (.int .i64 x.v.i) ∧ w'.cell? ⟨b, o + m * 7 + 4, none⟩ = some (.string x.v.t) ∧ w'.cell? ⟨b, o + m * 7 + 5, none⟩ = some (.slice x.sl.a x.v.l.length x.sl.c) ∧ w'.cell? ⟨b, o + m * 7 + 6, none⟩ = some (.slice x.so.a x.v.ok.length x.so.c) ∧ w'.cell? ⟨b, o + (m + 1) * 7, none⟩ = some (.string y.k) ∧ w'.cell? ⟨b, o + (m + 1) * 7 + 1, none⟩ = some (.int .i64 y.v.kind) ∧ w'.cell? ⟨b, o + (m + 1) * 7 + 2, none⟩ = some (.bool y.v.b) ∧ w'.cell? ⟨b, o + (m + 1) * 7 + 3, none⟩ = some (.int .i64 y.v.i) ∧ w'.cell? ⟨b, o + (m + 1) * 7 + 4, none⟩ = some (.string y.v.t) ∧ w'.cell? ⟨b, o + (m + 1) * 7 + 5, none⟩ = some (.slice y.sl.a y.v.l.length y.sl.c) ∧ w'.cell? ⟨b, o + (m + 1) * 7 + 6, none⟩ = some (.slice y.so.a y.v.ok.length y.so.c)) (go_keep)
        ((go_at_call 45; refine (leaf1_any _ _ _ _ _ _ _ _ _).mono ?_; rintro e w' ⟨rfl, hx'⟩; have ho' : ∀ o', w'.cell? ⟨b, o', none⟩ = wr.cell? ⟨b, o', none⟩ := fun o' => hx'.cell hbw))
      have hX := hx.trans ((Ext.refl wr).drew.trans hx')
      have HX := Lib.hid hX
      clear hX ho'
      rw [HK.out]
      have hkk := HK.out
      cases kb
      · clear hkk
        go_wp2_with fail
        go_ret
        exact ⟨rfl, HX.out⟩
      · have HK2 := Lib.hid hkk
        clear hkk
        go_wp2_with fail
        go_roundw
        case rel =>
          refine ⟨m + 1, .inl (by omega), by go_num, fun i u v hi hu hv => ?_, HX.out⟩
          rcases Nat.lt_or_ge i m with h | h
          · exact HU.out i u v h hu hv
          · obtain rfl : i = m := by omega
            have e1 := HXY.out.1.symm.trans hu
            have e2 := HXY.out.2.symm.trans hv
            simp only [Option.some.injEq] at e1 e2
            subst e1 e2
            exact HK2.out
        case measure => simp [intOf]; omega
    · refine absurd (fun i u v hu hv => HU.out i u v ?_ hu hv) HR.out
      have := (List.getElem?_eq_some_iff.1 hv).1
      omega
set_option maxRecDepth 100000 in
set_option maxHeartbeats 800000 in
theorem nleaf_no {w : World} {s : Sl} {xs : List LE} (hs : ES w (Lt w.heap.size) s xs) (hr : ¬ (xs.length ≤ 8 ∧ risingN xs)) :
    Calls Try.prog 33 #[.slice s.a xs.length s.c] w fun e w' => e = .returned (.tuple #[.pointer none, .int .i64 2]) ∧ Ext w w' := by
  by_cases h8 : xs.length ≤ 8
  · have hri := rising_no hs fun h => hr ⟨h8, h⟩
    have hg : ¬ (8 : Int) < (xs.length : Int) := by omega
    have HRI := Lib.hid hri
    clear hri hr hs
    go_enter Try.func33, Try.ntmps33
    go_wp2_with fail
    refine HRI.out.mono ?_
    rintro e w1 ⟨rfl, hx1⟩
    go_wp2_with fail
    go_ret2
    exact ⟨rfl, hx1⟩
  · have hg : (8 : Int) < (xs.length : Int) := by omega
    clear hs hr
    go_enter Try.func33, Try.ntmps33
    go_wp2_with fail
    go_ret2
    exact ⟨rfl, Ext.refl w⟩
end Go.Proofs.Ytohajcflklejjaa
