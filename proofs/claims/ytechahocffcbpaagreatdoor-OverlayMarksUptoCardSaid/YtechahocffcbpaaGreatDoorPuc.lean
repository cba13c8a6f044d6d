/- What the theorem needs of the texts DelP, BuiltP, DelT, St, RangeG, RangeC, Coll, CmpP, DeleteE, DeleteN, Log, Trees, Get, Gather, Step, Build, AL, OvP, OvQ, Trod, TrodV, Frame, Put7: no condition of its own. -/
import Derived.RangeFuncNested
import Derived.RangeFuncBound
import Derived.RangeFuncCalls
import Derived.RangeFuncLeaves
import Derived.OwnWalkIn
import Derived.Deep.RegionLaw
import Derived.Lib.SliceRun
import Derived.Maps.OwnSet
import Derived.WideAt
import Derived.Laws.IdiomStrings
import Derived.WalkArith
import Derived.ChangeArms
import Derived.DataReads
import Derived.Handed
import Derived.ChangeShapes
import Derived.WideShapes
import Derived.WideKeyArgs
import Derived.ChangeOld
import Derived.ProofKit
import Derived.OpenShut
import Derived.WalkKit
import Derived.Test.YtechahocffcbpaaGreatDoorPua
import Derived.Test.YtechahocffcbpaaGreatDoorPub
set_option maxRecDepth 100000
set_option maxHeartbeats 1000000
namespace Go.Proofs.YtechahocffcbpaaGreatDoor
open Go.RowKit
set_option linter.unusedVariables false
def pairL {α : Type} (l r : List α) : List (List α) :=
  if 4 < l.length then [l.take (l.length - 1), l.drop (l.length - 1) ++ r] else if 4 < r.length then [l ++ r.take 1, r.drop 1] else [l ++ r]
theorem pairL_flat {α : Type} (l r : List α) : (pairL l r).flatten = l ++ r := by
  unfold pairL
  split
  · simp [← List.append_assoc]
  · split
    · simp only [List.flatten_cons, List.flatten_nil, List.append_nil, List.append_assoc, List.take_append_drop]
    · simp
theorem pairL_len {α : Type} (l r : List α) : (pairL l r).length = 1 ∨ (pairL l r).length = 2 := by
  unfold pairL
  split
  · simp
  · split <;> simp
theorem pairL_ok {α : Type} {l r : List α} (h : (l.length = 3 ∧ 4 ≤ r.length ∧ r.length ≤ 8) ∨ (4 ≤ l.length ∧ l.length ≤ 8 ∧ r.length = 3)) : ∀ x ∈ pairL l r, 4 ≤ x.length ∧ x.length ≤ 8 := by
  unfold pairL
  intro x hx
  split at hx
  · simp only [List.mem_cons, List.not_mem_nil, or_false] at hx
    rcases hx with rfl | rfl
    · rw [List.length_take]; omega
    · rw [List.length_append, List.length_drop]; omega
  · split at hx
    · simp only [List.mem_cons, List.not_mem_nil, or_false] at hx
      rcases hx with rfl | rfl
      · rw [List.length_append, List.length_take]; omega
      · rw [List.length_drop]; omega
    · simp only [List.mem_cons, List.not_mem_nil, or_false] at hx
      subst hx
      rw [List.length_append]; omega
theorem pairL_mem {α : Type} {l r : List α} {x : List α} (hx : x ∈ pairL l r) {a : α} (ha : a ∈ x) : a ∈ l ∨ a ∈ r := by
  have : a ∈ (pairL l r).flatten := List.mem_flatten.2 ⟨x, hx, ha⟩
  rw [pairL_flat] at this
  exact List.mem_append.1 this
def PairR (B : Nat) : (h : Nat) → PT h → PT h → List (PT h) → Prop
  | 0, l, r, ts => ts.map Prod.snd = pairL l.2 r.2 ∧ ∀ u ∈ ts, B ≤ u.1
  | _ + 1, l, r, ts => ts.map Prod.snd = pairL l.2 r.2 ∧ ∀ u ∈ ts, B ≤ u.1
theorem PairR.mono {A B : Nat} (hAB : A ≤ B) : ∀ {h : Nat} {l r : PT h} {ts : List (PT h)}, PairR B h l r ts → PairR A h l r ts
  | 0, _, _, _, ⟨h1, h2⟩ => ⟨h1, fun u hu => Nat.le_trans hAB (h2 u hu)⟩
  | _ + 1, _, _, _, ⟨h1, h2⟩ => ⟨h1, fun u hu => Nat.le_trans hAB (h2 u hu)⟩
theorem PairR.ents {B : Nat} : ∀ {h : Nat} {l r : PT h} {ts : List (PT h)}, PairR B h l r ts → ts.flatMap (Proofs.YtechahocffcbpaaGreatDoor.ents h) = ents h l ++ ents h r
  | 0, l, r, ts, ⟨h1, _⟩ => by rw [flat_snd0, h1, pairL_flat]; rfl
  | h + 1, l, r, ts, ⟨h1, _⟩ => by
    rw [flat_snd, h1, pairL_flat]
    show (l.2 ++ r.2).flatMap _ = _
    rw [List.flatMap_append]; rfl
theorem map_len {α β : Type} {ts : List (β × α)} {L : List α} (h : ts.map Prod.snd = L) (hL : L.length = 1 ∨ L.length = 2) : ts.length = 1 ∨ ts.length = 2 := by
  subst h
  rwa [List.length_map] at hL
theorem PairR.len {B : Nat} : ∀ {h : Nat} {l r : PT h} {ts : List (PT h)}, PairR B h l r ts → ts.length = 1 ∨ ts.length = 2
  | 0, l, r, ts, ⟨h1, _⟩ => map_len h1 (pairL_len (α := Ent) _ _)
  | n + 1, l, r, ts, ⟨h1, _⟩ => map_len h1 (pairL_len (α := PT n) _ _)
theorem PairR.ok {B : Nat} : ∀ {h : Nat} {l r : PT h} {ts : List (PT h)}, PairR B h l r ts → OkT h l → OkT h r → (size h l = 3 ∧ 4 ≤ size h r) ∨ (4 ≤ size h l ∧ size h r = 3) → ∀ u ∈ ts, OkT h u ∧ 4 ≤ size h u
  | 0, l, r, ts, ⟨h1, _⟩, hl, hr, hs, u, hu => by
    have hm : u.2 ∈ pairL l.2 r.2 := by rw [← h1]; exact List.mem_map_of_mem hu
    have hl : l.2.length ≤ 8 := hl
    have hr : r.2.length ≤ 8 := hr
    have hs : (l.2.length = 3 ∧ 4 ≤ r.2.length) ∨ (4 ≤ l.2.length ∧ r.2.length = 3) := hs
    have := pairL_ok (by omega) _ hm
    exact ⟨this.2, this.1⟩
  | h + 1, l, r, ts, ⟨h1, _⟩, hl, hr, hs, u, hu => by
    have hm : u.2 ∈ pairL l.2 r.2 := by rw [← h1]; exact List.mem_map_of_mem hu
    have l8 : l.2.length ≤ 8 := hl.2.1
    have r8 : r.2.length ≤ 8 := hr.2.1
    have hs : (l.2.length = 3 ∧ 4 ≤ r.2.length) ∨ (4 ≤ l.2.length ∧ r.2.length = 3) := hs
    have := pairL_ok (by omega) _ hm
    refine ⟨⟨by omega, this.2, fun x hx => ?_⟩, this.1⟩
    rcases pairL_mem hm hx with hx | hx
    · exact hl.2.2 x hx
    · exact hr.2.2 x hx
def Mend (B h : Nat) (ks : List (PT h)) (i : Nat) (ks' : List (PT h)) : Prop :=
  ∃ l r ts, ks[i - 1]? = some l ∧ ks[i - 1 + 1]? = some r ∧ PairR B h l r ts ∧ ks' = ks.take (i - 1) ++ ts ++ ks.drop (i - 1 + 2)
def DelK (B : Nat) (k : ByteArray) (h : Nat) (R : PT h → PT h → Prop) (ks ks' : List (PT h)) : Prop :=
  ∃ kid kid', ks[whichK h ks k]? = some kid ∧ R kid kid' ∧
    ((4 ≤ size h kid' ∧ ks' = ks.set (whichK h ks k) kid') ∨ (size h kid' < 4 ∧ Mend B h (ks.set (whichK h ks k) kid') (whichK h ks k) ks'))
def DelR (B : Nat) (k : ByteArray) : (h : Nat) → PT h → PT h → Prop
  | 0, t, u => u.2 = delE t.2 k ∧ B ≤ u.1
  | h + 1, t, u => DelK B k h (DelR B k h) t.2 u.2 ∧ B ≤ u.1
theorem Mend.mono {A B : Nat} (hAB : A ≤ B) {h : Nat} {ks ks' : List (PT h)} {i : Nat} (hm : Mend B h ks i ks') : Mend A h ks i ks' := by
  obtain ⟨l, r, ts, h1, h2, h3, h4⟩ := hm
  exact ⟨l, r, ts, h1, h2, h3.mono hAB, h4⟩
theorem DelK.mono {A B : Nat} (hAB : A ≤ B) {k : ByteArray} {h : Nat} {R S : PT h → PT h → Prop} (hRS : ∀ x y, R x y → S x y) {ks ks' : List (PT h)} (hd : DelK B k h R ks ks') : DelK A k h S ks ks' := by
  obtain ⟨kid, kid', h1, h2, h3⟩ := hd
  exact ⟨kid, kid', h1, hRS _ _ h2, h3.imp_right fun ⟨a, b⟩ => ⟨a, b.mono hAB⟩⟩
theorem DelR.mono {A B : Nat} (hAB : A ≤ B) {k : ByteArray} : ∀ {h : Nat} {t u : PT h}, DelR B k h t u → DelR A k h t u
  | 0, _, _, ⟨h1, h2⟩ => ⟨h1, Nat.le_trans hAB h2⟩
  | _ + 1, _, _, ⟨h1, h2⟩ => ⟨h1.mono hAB fun _ _ hr => hr.mono hAB, Nat.le_trans hAB h2⟩
theorem set_mid {α : Type} {l : List α} {i : Nat} {x y : α} (h : l[i]? = some x) : l.set i y = l.take i ++ y :: l.drop (i + 1) := by
  rw [List.set_eq_take_append_cons_drop, if_pos (List.getElem?_eq_some_iff.1 h).1]
theorem two_mid {α : Type} {l : List α} {i : Nat} {x y : α} (h : l[i]? = some x) (h' : l[i + 1]? = some y) : l = l.take i ++ x :: y :: l.drop (i + 2) := by
  have e1 := take_mid h
  obtain ⟨hi, rfl⟩ := List.getElem?_eq_some_iff.1 h'
  rw [List.drop_eq_getElem_cons hi] at e1
  exact e1
theorem Mend.ents {B h : Nat} {ks ks' : List (PT h)} {i : Nat} (hm : Mend B h ks i ks') : ks'.flatMap (Proofs.YtechahocffcbpaaGreatDoor.ents h) = ks.flatMap (Proofs.YtechahocffcbpaaGreatDoor.ents h) := by
  obtain ⟨l, r, ts, h1, h2, h3, rfl⟩ := hm
  conv => rhs; rw [two_mid h1 h2]
  simp only [List.flatMap_append, List.flatMap_cons, h3.ents, List.append_assoc]
theorem getE_kid {h : Nat} {ks : List (PT h)} {k : ByteArray} {kid : PT h} (hk : ks[whichK h ks k]? = some kid) (hA : ∀ e ∈ (ks.take (whichK h ks k)).flatMap (ents h), klt e.1 k = true) (hC : ∀ e ∈ (ks.drop (whichK h ks k + 1)).flatMap (ents h), klt k e.1 = true) :
    getE (ks.flatMap (ents h)) k = getE (ents h kid) k := by
  conv => lhs; rw [take_mid hk]
  rw [List.flatMap_append, List.flatMap_cons, getE_app hA, getE_stop hC]
theorem DelK.ents {B : Nat} {k : ByteArray} {h : Nat} {R : PT h → PT h → Prop} {ks ks' : List (PT h)} (hd : DelK B k h R ks ks') (hs : Sorted (ks.flatMap (Proofs.YtechahocffcbpaaGreatDoor.ents h))) (hp : ∀ x ∈ ks, 0 < (Proofs.YtechahocffcbpaaGreatDoor.ents h x).length) (hne : 0 < ks.length)
    (hR : ∀ x y, x ∈ ks → R x y → Proofs.YtechahocffcbpaaGreatDoor.ents h y = delE (Proofs.YtechahocffcbpaaGreatDoor.ents h x) k) : ks'.flatMap (Proofs.YtechahocffcbpaaGreatDoor.ents h) = delE (ks.flatMap (Proofs.YtechahocffcbpaaGreatDoor.ents h)) k := by
  obtain ⟨kid, kid', hk, hr, h3⟩ := hd
  obtain ⟨kid2, hk2, hA, hC⟩ := which_split (h := h) (ks := ks) hs hp hne k
  rw [hk] at hk2
  simp only [Option.some.injEq] at hk2
  subst hk2
  have key : (ks.set (whichK h ks k) kid').flatMap (Proofs.YtechahocffcbpaaGreatDoor.ents h) = delE (ks.flatMap (Proofs.YtechahocffcbpaaGreatDoor.ents h)) k := by
    rw [set_mid hk]
    conv => rhs; rw [take_mid hk]
    simp only [List.flatMap_append, List.flatMap_cons]
    rw [hR kid kid' (List.mem_of_getElem? hk) hr, delE_app hA, delE_stop hC]
  rcases h3 with ⟨-, rfl⟩ | ⟨-, hm⟩
  · exact key
  · rw [hm.ents, key]
theorem DelR.ents {B : Nat} {k : ByteArray} : ∀ {h : Nat} {t u : PT h}, DelR B k h t u → OkT h t → Sorted (Proofs.YtechahocffcbpaaGreatDoor.ents h t) → Proofs.YtechahocffcbpaaGreatDoor.ents h u = delE (Proofs.YtechahocffcbpaaGreatDoor.ents h t) k
  | 0, t, u, ⟨h1, _⟩, _, _ => h1
  | h + 1, t, u, ⟨h1, _⟩, ok, hs =>
    h1.ents hs (kids_pos ok) (by have := ok.1; omega) fun x y hx hr => hr.ents (ok.2.2 x hx).1 (kid_sorted hs x hx)
theorem delE_len : ∀ {es : List Ent} {k : ByteArray}, Sorted es → (getE es k).isSome = true → (delE es k).length + 1 = es.length
  | [], _, _, h => by cases h
  | e :: es, k, hs, h => by
    have hs' := List.pairwise_cons.1 hs
    simp only [delE]
    by_cases hk : e.1 = k
    · subst hk
      simp [klt_irrefl]
    · simp only [getE, hk, if_false] at h
      have hlt : klt e.1 k = true := by
        cases hg : getE es k with
        | none => rw [hg] at h; cases h
        | some v =>
          have : ∃ x ∈ es, x.1 = k := by
            clear hs hs' h hk
            induction es with
            | nil => cases hg
            | cons a es ih =>
              simp only [getE] at hg
              by_cases ha : a.1 = k
              · exact ⟨a, List.mem_cons_self .., ha⟩
              · simp only [ha, if_false] at hg
                obtain ⟨x, hx, e⟩ := ih hg
                exact ⟨x, List.mem_cons_of_mem _ hx, e⟩
          obtain ⟨x, hx, rfl⟩ := this
          exact hs'.1 x hx
      simp only [hlt, if_true, List.length_cons]
      rw [delE_len hs'.2 h]
theorem DelK.ok {B : Nat} {k : ByteArray} {h : Nat} {R : PT h → PT h → Prop} {ks ks' : List (PT h)} (hd : DelK B k h R ks ks') (hok : ∀ x ∈ ks, OkT h x ∧ 4 ≤ size h x) (h2 : 2 ≤ ks.length)
    (hR : ∀ x y, x ∈ ks → ks[whichK h ks k]? = some x → R x y → OkT h y ∧ size h x ≤ size h y + 1) : (∀ u ∈ ks', OkT h u ∧ 4 ≤ size h u) ∧ ks'.length ≤ ks.length ∧ ks.length ≤ ks'.length + 1 := by
  obtain ⟨kid, kid', hk, hr, h3⟩ := hd
  have hkm := List.mem_of_getElem? hk
  have hi := (List.getElem?_eq_some_iff.1 hk).1
  obtain ⟨o1, o2⟩ := hR kid kid' hkm hk hr
  have o4 := (hok kid hkm).2
  have hset : ∀ u ∈ ks.set (whichK h ks k) kid', u = kid' ∨ (OkT h u ∧ 4 ≤ size h u) := fun u hu => by
    rcases List.mem_or_eq_of_mem_set hu with hu | hu
    · exact .inr (hok u hu)
    · exact .inl hu
  rcases h3 with ⟨h4, rfl⟩ | ⟨h4, l, r, ts, hl, hr', hp, rfl⟩
  · refine ⟨fun u hu => ?_, by simp, by simp⟩
    rcases hset u hu with rfl | h
    · exact ⟨o1, h4⟩
    · exact h
  · generalize hI : whichK h ks k = i at *
    have hsz : size h kid' = 3 := by omega
    have hget : ∀ j, j ≠ i → ∀ x, (ks.set i kid')[j]? = some x → OkT h x ∧ 4 ≤ size h x := fun j hj x hx => by
      rw [List.getElem?_set_ne (by omega)] at hx
      exact hok x (List.mem_of_getElem? hx)
    have hgi : (ks.set i kid')[i]? = some kid' := by rw [List.getElem?_set_self hi]
    have hpair : OkT h l ∧ OkT h r ∧ ((size h l = 3 ∧ 4 ≤ size h r) ∨ (4 ≤ size h l ∧ size h r = 3)) := by
      by_cases h0 : i = 0
      · subst h0
        rw [hgi] at hl
        simp only [Option.some.injEq] at hl
        subst hl
        have := hget 1 (by omega) r hr'
        exact ⟨o1, this.1, .inl ⟨hsz, this.2⟩⟩
      · rw [show i - 1 + 1 = i from by omega, hgi] at hr'
        simp only [Option.some.injEq] at hr'
        subst hr'
        have := hget (i - 1) (by omega) l hl
        exact ⟨this.1, o1, .inr ⟨this.2, hsz⟩⟩
    have hts := hp.ok hpair.1 hpair.2.1 hpair.2.2
    have hln := hp.len
    refine ⟨fun u hu => ?_, ?_, ?_⟩
    · rcases List.mem_append.1 hu with hu | hu
      · rcases List.mem_append.1 hu with hu | hu
        · obtain ⟨j, hj⟩ := List.getElem?_of_mem hu
          rw [List.getElem?_take] at hj
          split at hj
          · exact hget j (by omega) u hj
          · cases hj
        · exact hts u hu
      · obtain ⟨j, hj⟩ := List.getElem?_of_mem hu
        rw [List.getElem?_drop] at hj
        exact hget _ (by omega) u hj
    · simp only [List.length_append, List.length_take, List.length_drop, List.length_set]; omega
    · simp only [List.length_append, List.length_take, List.length_drop, List.length_set]
      have := (List.getElem?_eq_some_iff.1 hr').1
      rw [List.length_set] at this
      omega
theorem DelR.ok {B : Nat} {k : ByteArray} : ∀ {h : Nat} {t u : PT h}, DelR B k h t u → OkT h t → 4 ≤ size h t → Sorted (Proofs.YtechahocffcbpaaGreatDoor.ents h t) → (getE (Proofs.YtechahocffcbpaaGreatDoor.ents h t) k).isSome = true → OkT h u ∧ size h t ≤ size h u + 1 ∧ size h u ≤ size h t
  | 0, t, u, ⟨h1, _⟩, ok, _, hs, hg => by
    have := delE_len hs hg
    have e : size 0 u = (delE (Proofs.YtechahocffcbpaaGreatDoor.ents 0 t) k).length := by show u.2.length = _; rw [h1]; rfl
    have e2 : (Proofs.YtechahocffcbpaaGreatDoor.ents 0 t).length = size 0 t := rfl
    have ok : size 0 t ≤ 8 := ok
    exact ⟨show size 0 u ≤ 8 by omega, by omega, by omega⟩
  | h + 1, t, u, ⟨h1, _⟩, ok, h4, hs, hg => by
    have h4 : 4 ≤ t.2.length := h4
    obtain ⟨a, b, c⟩ := h1.ok ok.2.2 ok.1 fun x y hx hxk hr => by
      obtain ⟨kid2, hk2, hA, hC⟩ := which_split (h := h) (ks := t.2) hs (kids_pos ok) (by omega) k
      rw [hxk] at hk2
      simp only [Option.some.injEq] at hk2
      subst hk2
      have := hr.ok (ok.2.2 x hx).1 (ok.2.2 x hx).2 (kid_sorted hs x hx) (by rw [← getE_kid hxk hA hC]; exact hg)
      exact ⟨this.1, this.2.1⟩
    have o8 := ok.2.1
    exact ⟨⟨by omega, by omega, a⟩, c, b⟩
theorem delE_none {es : List Ent} {k : ByteArray} (h : getE es k = none) : delE es k = es := by
  induction es with
  | nil => rfl
  | cons e es ih =>
    simp only [getE] at h
    by_cases hk : e.1 = k
    · simp [hk] at h
    · simp only [hk, if_false] at h
      simp only [delE, hk, if_false]
      split
      · rw [ih h]
      · rfl
inductive BuiltR : List Ent → RT → Prop
  | nil : BuiltR [] none
  | snoc {es : List Ent} {T T' : RT} {B : Nat} {k : ByteArray} {v : Val} (h : BuiltR es T) (hp : PutR B k v T T') : BuiltR (es ++ [(k, v)]) T'
def putAll (es : List Ent) (l : List Ent) : List Ent := l.foldl (fun m e => insE m e.1 e.2) es
theorem putAll_snoc (es l : List Ent) (e : Ent) : putAll es (l ++ [e]) = insE (putAll es l) e.1 e.2 := by simp [putAll]
theorem putAll_len (l : List Ent) : ∀ es : List Ent, (putAll es l).length ≤ es.length + l.length := by
  induction l with
  | nil => intro es; exact Nat.le_refl _
  | cons a l ih =>
    intro es
    have := ih (insE es a.1 a.2)
    have h2 := insE_len es a.1 a.2
    simp only [putAll, List.foldl_cons, List.length_cons] at *
    omega
theorem BuiltR.both {l : List Ent} {T : RT} (h : BuiltR l T) : (OkR T) ∧ entsT T = putAll [] l := by
  induction h with
  | nil => exact ⟨trivial, rfl⟩
  | snoc h hp ih => exact ⟨hp.ok ih.1, by rw [hp.ents ih.1, ih.2, putAll_snoc]⟩
inductive DelT (B : Nat) (k : ByteArray) : RT → RT → Prop
  | no {T : RT} (h : getE (entsT T) k = none) : DelT B k T T
  | same {h : Nat} {t u : PT h} (hg : (getE (ents h t) k).isSome = true) (hd : DelR B k h t u) (hp : 0 < (ents h u).length) (h2 : h = 0 ∨ 2 ≤ size h u) : DelT B k (some ⟨h, t⟩) (some ⟨h, u⟩)
  | gone {t u : PT 0} (hg : (getE (ents 0 t) k).isSome = true) (hd : DelR B k 0 t u) (h0 : ents 0 u = []) : DelT B k (some ⟨0, t⟩) none
  | down {h : Nat} {t : PT (h + 1)} {u : PT h} (hg : (getE (ents (h + 1) t) k).isSome = true) (hd : DelK B k h (DelR B k h) t.2 [u]) : DelT B k (some ⟨h + 1, t⟩) (some ⟨h, u⟩)
theorem DelT.mono {A B : Nat} (hAB : A ≤ B) {k : ByteArray} {T T' : RT} (hd : DelT B k T T') : DelT A k T T' := by
  cases hd with
  | no h => exact .no h
  | same hg hd hp h2 => exact .same hg (hd.mono hAB) hp h2
  | gone hg hd h0 => exact .gone hg (hd.mono hAB) h0
  | down hg hd => exact .down hg (hd.mono hAB fun _ _ hr => hr.mono hAB)
theorem getE_entsT (h : Nat) (t : PT h) : entsT (some ⟨h, t⟩) = Proofs.YtechahocffcbpaaGreatDoor.ents h t := rfl
theorem DelT.ents {B : Nat} {k : ByteArray} {T T' : RT} (hd : DelT B k T T') (ok : OkR T) : entsT T' = delE (entsT T) k := by
  cases hd with
  | no h => exact (delE_none h).symm
  | same hg hd hp h2 => exact hd.ents ok.1 ok.2.2
  | gone hg hd h0 => exact h0.symm.trans (hd.ents ok.1 ok.2.2)
  | down hg hd =>
    rename_i h t u
    have ok1 := ok.1
    have := hd.ents ok.2.2 (kids_pos ok1) (by have := ok1.1; omega) fun x y hx hr => hr.ents (ok1.2.2 x hx).1 (kid_sorted ok.2.2 x hx)
    rw [List.flatMap_cons, List.flatMap_nil, List.append_nil] at this
    exact this
theorem delK_root {B : Nat} {k : ByteArray} {h : Nat} {t : PT (h + 1)} {ks' : List (PT h)} (hd : DelK B k h (DelR B k h) t.2 ks') (ok : OkT (h + 1) t) (hs : Sorted (ents (h + 1) t)) (hg : (getE (ents (h + 1) t) k).isSome = true) :
    (∀ u ∈ ks', OkT h u ∧ 4 ≤ size h u) ∧ ks'.length ≤ t.2.length ∧ t.2.length ≤ ks'.length + 1 := by
  refine hd.ok ok.2.2 ok.1 fun x y hx hxk hr => ?_
  obtain ⟨kid2, hk2, hA, hC⟩ := which_split (h := h) (ks := t.2) hs (kids_pos ok) (by have := ok.1; omega) k
  rw [hxk] at hk2
  simp only [Option.some.injEq] at hk2
  subst hk2
  have := hr.ok (ok.2.2 x hx).1 (ok.2.2 x hx).2 (kid_sorted hs x hx) (by rw [← getE_kid hxk hA hC]; exact hg)
  exact ⟨this.1, this.2.1⟩
theorem DelT.ok {B : Nat} {k : ByteArray} {T T' : RT} (hd : DelT B k T T') (ok : OkR T) : OkR T' := by
  have hs : Sorted (entsT T') := by rw [hd.ents ok]; exact delE_sorted ok.sorted k
  cases hd with
  | no h => exact ok
  | same hg hd hp h2 =>
    rename_i h t u
    cases h with
    | zero =>
      have h1 := hd.1
      have : (delE t.2 k).length ≤ t.2.length := (delE_sublist t.2 k).length_le
      have o : t.2.length ≤ 8 := ok.1
      exact ⟨show u.2.length ≤ 8 by rw [h1]; omega, hp, hs⟩
    | succ h =>
      obtain ⟨h1, -⟩ := hd
      obtain ⟨a, b, c⟩ := delK_root h1 ok.1 ok.2.2 hg
      have h2 : 2 ≤ u.2.length := h2.resolve_left (by omega)
      have o8 := ok.1.2.1
      exact ⟨⟨h2, by omega, a⟩, show 1 ≤ u.2.length by omega, hs⟩
  | gone hg hd h0 => trivial
  | down hg hd =>
    obtain ⟨a, b, c⟩ := delK_root hd ok.1 ok.2.2 hg
    rename_i h t u
    have := a u (List.mem_singleton.2 rfl)
    exact ⟨this.1, by omega, hs⟩
structure St (H : Nat → Prop) (w w' : World) : Prop where
  os : w'.os = w.os
  tape : w'.tape = w.tape
  output : w'.output = w.output
  size : w.heap.size ≤ w'.heap.size
  block : ∀ b, b < w.heap.size → ¬ H b → w'.heap[b]? = w.heap[b]?
  fz : ∀ b o, w'.frozen? ⟨b, o, none⟩ = w.frozen? ⟨b, o, none⟩
theorem Ext.fz {w w' : World} (h : Ext w w') (b o : Nat) : w'.frozen? ⟨b, o, none⟩ = w.frozen? ⟨b, o, none⟩ := by
  by_cases hl : b < w.heap.size
  · exact h.frozen hl
  · rw [h.free _ _ (by omega), frozen_none (by omega)]
theorem Ext.st {w w' : World} (h : Ext w w') (H : Nat → Prop) : St H w w' := ⟨h.below.os, h.below.tape, h.below.output, h.size, fun _ hb _ => h.heap hb, h.fz⟩
theorem St.refl (H : Nat → Prop) (w : World) : St H w w := (Ext.refl w).st H
theorem Wr.st {w w' : World} {row : Option Nat} (h : Wr w w' row) {H : Nat → Prop} (hr : ∀ i, row = some i → H i) : St H w w' :=
  ⟨h.grown.os, h.grown.tape, h.grown.output, h.grown.size, fun b hb hn => h.grown.block b hb fun e => hn (hr b e.symm), h.fz⟩
theorem St.trans {H : Nat → Prop} {a b c : World} (h : St H a b) (k : St H b c) : St H a c :=
  ⟨k.os.trans h.os, k.tape.trans h.tape, k.output.trans h.output, Nat.le_trans h.size k.size, fun i hi hn => (k.block i (Nat.lt_of_lt_of_le hi h.size) hn).trans (h.block i hi hn), fun b o => (k.fz b o).trans (h.fz b o)⟩
theorem St.mono {H G : Nat → Prop} {a b : World} (h : St H a b) (hG : ∀ i, i < a.heap.size → H i → G i) : St G a b :=
  ⟨h.os, h.tape, h.output, h.size, fun i hi hn => h.block i hi fun hh => hn (hG i hi hh), h.fz⟩
theorem St.ext_of {H : Nat → Prop} {w w' : World} (h : St H w w') (hH : ∀ b, b < w.heap.size → ¬ H b) : Ext w w' :=
  ⟨⟨h.os, h.tape, h.output, h.size, fun b hb => h.block b hb (hH b hb)⟩, fun b o hb => (h.fz b o).trans (frozen_none hb)⟩
theorem Ext.step {a w w' : World} {H : Nat → Prop} (h : Ext a w) (k : St H w w') (hH : ∀ b, H b → a.heap.size ≤ b) : Ext a w' :=
  (St.trans (h.st H) k).ext_of fun b hb hh => by have := hH b hh; omega
theorem St.ext {H : Nat → Prop} {a b c : World} (h : St H a b) (k : Ext b c) : St H a c := h.trans (k.st H)
theorem St.set {H : Nat → Prop} {a w : World} (h : St H a w) {p : Addr} (hp : a.heap.size ≤ p.block ∨ H p.block) (u : Value) : St H a (w.setCell p u) :=
  ⟨h.os, h.tape, h.output, by simpa [World.setCell] using h.size, fun i hi hn => (Below.heap_setCell w p u i (by
    rintro rfl
    rcases hp with hp | hp
    · omega
    · exact hn hp)).trans (h.block i hi hn), fun b o => by rw [World.frozen?_setCell]; exact h.fz b o⟩
theorem St.heap {H : Nat → Prop} {w w' : World} (h : St H w w') {b : Nat} (hb : b < w.heap.size) (hn : ¬ H b) : w'.heap[b]? = w.heap[b]? := h.block b hb hn
theorem St.cell {H : Nat → Prop} {w w' : World} (h : St H w w') {b o : Nat} (hb : b < w.heap.size) (hn : ¬ H b) : w'.cell? ⟨b, o, none⟩ = w.cell? ⟨b, o, none⟩ :=
  World.cell?_of_block (w := w) (a := ⟨b, o, none⟩) (h.block b hb hn)
theorem St.drewN {H : Nat → Prop} {a w : World} (h : St H a w) (n : Nat) : St H a (w.drewN n) := h.ext ((Ext.refl w).drewN n)
theorem St.drew {H : Nat → Prop} {a w : World} (h : St H a w) : St H a w.drew := h.ext ((Ext.refl w).drew)
theorem St.alloc {H : Nat → Prop} {a w : World} (h : St H a w) (c : Array Value) (t : TypeId) : St H a (w.alloc (.cells c t)) := h.ext ((Ext.refl w).alloc c t)
theorem St.blk {H : Nat → Prop} {w w' : World} {g : Nat} {t : TypeId} {cs : Array Value} (h : St H w w') (hb : Blk w g t cs) (hn : ¬ H g) : Blk w' g t cs := (h.block g hb.lt hn).trans hb
abbrev NH (H : Nat → Prop) (w : World) : Nat → Prop := fun b => b < w.heap.size ∧ ¬ H b
theorem St.agree {H : Nat → Prop} {w w' : World} (h : St H w w') : Agree (NH H w) w w' := fun b hb => h.block b hb.1 hb.2
theorem NH.lt {H : Nat → Prop} {w : World} {b : Nat} (h : NH H w b) : Lt w.heap.size b := h.1
theorem ext_obj (w : World) (o : Obj) (h : ∀ (W : World) (i j : Nat), W.heap[i]? = some o → W.frozen? ⟨i, j, none⟩ = false) : Ext w (w.alloc o) := by
  refine ⟨(Below.refl _ _).alloc (Nat.le_refl _) _, fun b j hb => ?_⟩
  by_cases hb' : b = w.heap.size
  · subst hb'
    exact h _ _ _ (World.alloc_heap_new w o)
  · exact frozen_none (by simp; omega)
structure Turned (B : Nat) (W W' : World) : Prop where
  os : W'.os = W.os
  tape : W'.tape = W.tape
  output : W'.output = W.output
  size : W'.heap.size = W.heap.size
  block : ∀ b, (b < B ∨ ∃ o, W.heap[b]? = some o ∧ o.isCells = true) → W'.heap[b]? = W.heap[b]?
  fz : ∀ b o, W'.frozen? ⟨b, o, none⟩ = W.frozen? ⟨b, o, none⟩
theorem Turned.put {B l : Nat} {W : World} {o o' : Obj} (hl : B ≤ l) (h : W.heap[l]? = some o) (hc : o.isCells = false) (hc' : o'.isCells = false) : Turned B W (W.putObj l o') := by
  refine ⟨rfl, rfl, rfl, by simp, fun b hb => World.putObj_heap_other ?_, fun b j => ?_⟩
  · rintro rfl
    rcases hb with hb | ⟨o2, h2, h3⟩
    · omega
    · rw [h] at h2; cases h2; rw [hc] at h3; cases h3
  · by_cases e : b = l
    · subst e
      have h1 : (W.putObj b o').heap[b]? = some o' := World.putObj_heap_same (Array.getElem?_eq_some_iff.1 h).1
      unfold World.frozen?
      simp only [h1, h]
      cases o <;> cases o' <;> first | rfl | (simp [Obj.isCells] at hc; done) | (simp [Obj.isCells] at hc'; done)
    · exact World.frozen?_of_block (a := ⟨b, j, none⟩) (World.putObj_heap_other e)
theorem St.then {C C1 : Nat → Prop} {a b c : World} (h : St C a b) (k : St C1 b c) (hC : ∀ i, i < a.heap.size → C1 i → C i) : St C a c :=
  ⟨k.os.trans h.os, k.tape.trans h.tape, k.output.trans h.output, Nat.le_trans h.size k.size, fun i hi hn => (k.block i (Nat.lt_of_lt_of_le hi h.size) (fun hh => hn (hC i hi hh))).trans (h.block i hi hn), fun b o => (k.fz b o).trans (h.fz b o)⟩
theorem St.put {l : Nat} {W : World} {o o' : Obj} (h : W.heap[l]? = some o) (hc : o.isCells = false) (hc' : o'.isCells = false) : St (fun b => b = l) W (W.putObj l o') :=
  ⟨rfl, rfl, rfl, by simp, fun b _ hn => World.putObj_heap_other hn, (Turned.put (Nat.le_refl l) h hc hc').fz⟩
structure Takes {α : Type} (P : Program) (l : Nat) (encs : α → Array Value) (G : List α → α → World → World → Prop) (J : List α → (Nat → Prop) → World → Prop) (Jx : List α → World → Prop) : Prop where
  lt : ∀ pre C W, J pre C W → ∀ b, C b → b < W.heap.size
  take : ∀ pre C x W0 W1, J pre C W0 → Ext W0 W1 → G pre x W0 W1 → YieldAt Fence.wide 4 P l (encs x) W1 fun e W' =>
    (e = .returned (.bool true) ∧ ∃ C', J (pre ++ [x]) C' W' ∧ St C W1 W' ∧ ∀ b, C' b → C b ∨ W1.heap.size ≤ b) ∨ (e = .returned (.bool false) ∧ Jx (pre ++ [x]) W' ∧ St C W1 W')
def SeqC {α : Type} (P : Program) (g : Nat) (lb : Array Value) (encs : α → Array Value) (K : Nat → Prop) (G : List α → α → World → World → Prop) (S Sp : List α → Prop) (w0 : World) : Prop :=
  ∀ (l : Nat) (J : List α → (Nat → Prop) → World → Prop) (Jx : List α → World → Prop) (C : Nat → Prop) (W : World), Takes P l encs G J Jx → Agree K w0 W → w0.heap.size ≤ W.heap.size → (∀ b, C b → ¬ K b) → J [] C W →
    Calls P g (#[.func (.yield l) #[] #[]] ++ lb) W fun e W' => (∃ v, e = .returned v) ∧ ((∃ xs C' W0, S xs ∧ J xs C' W0 ∧ Ext W0 W') ∨ (∃ pre W0, Sp pre ∧ Jx pre W0 ∧ Ext W0 W'))
def ownPostC {α : Type} (C : Nat → Prop) (I : List α → (Nat → Prop) → World → Prop) (Ix : Code → List α → World → Prop) (xs : List α) (W : World) : Exit → Act → World → Prop
  | .normal, _, W' => ∃ C', I xs C' W' ∧ St C W W' ∧ (∀ b, C' b → C b ∨ W.heap.size ≤ b) ∧ (∀ b, C' b → b < W'.heap.size)
  | .ret, _, W' => St C W W' ∧ Ix .ret xs W'
  | .exit id, _, W' => St C W W' ∧ Ix (.exit id) xs W'
  | .goto t, _, W' => St C W W' ∧ Ix (.goto t) xs W'
  | .panic _, _, _ => False
  | .outgrown, _, _ => False
theorem wpIn_rangeC {α : Type} {n : Nat} {P : Program} {g : Operand} {ps : Array Tmp} {assign body : Code} {Q : Exit → Act → World → Prop} {a : Act} {w : World}
    {gf : Nat} {lb : Array Value} (hg : a.eval g = .func (.func gf) #[] lb) (eg : ∀ args w, (callFunc gf args).run P w = .ok (.enter gf args) w)
    {encs : α → Array Value} {K : Nat → Prop} {G : List α → α → World → World → Prop} {S Sp : List α → Prop} {w0 : World} (hseq : SeqC P gf lb encs K G S Sp w0)
    (hA : Agree K w0 w) (hsz : w0.heap.size ≤ w.heap.size) (hK : ∀ b, K b → b < w.heap.size) (hps : ∀ x, (encs x).size = ps.size)
    (I : List α → (Nat → Prop) → World → Prop) (Ix : Code → List α → World → Prop) (C₀ : Nat → Prop) (hC : ∀ b, C₀ b → b < w.heap.size ∧ ¬ K b)
    (hI : ∀ {s C W W'}, I s C W → St (fun b => b = w.heap.size + 1) W W' → I s C W') (hIx : ∀ {c s W W'}, Ix c s W → St (fun b => b = w.heap.size + 1) W W' → Ix c s W')
    (h0 : ∀ W, Ext w W → w.heap.size + 2 ≤ W.heap.size → I [] C₀ W)
    (hround : ∀ (pre : List α) (C : Nat → Prop) (x : α) (W0 W1 : World), I pre C W0 → (∀ b, C b → b < W0.heap.size) → w.heap.size + 2 ≤ W0.heap.size → ¬ C (w.heap.size + 1) → Ext W0 W1 → G pre x W0 W1 →
      assign.wpIn (Fence.wide.inRound (w.heap.size + 1)) 4 P (Exit.then (fun a1 W2 => Ext W1 W2 ∧ ∀ W3, St (fun b => b = w.heap.size + 1) W2 W3 → body.wpIn (Fence.wide.inRound (w.heap.size + 1)) 4 P (ownPostC C I Ix (pre ++ [x]) W3) a1 W3) (fun _ _ _ => False))
        { tmps := (ps.zip (encs x)).foldl (fun t (p, v) => t.setIfInBounds p v) a.tmps, defers := [] } W1)
    (hdone : ∀ (D : Nat) (xs : List α) (C : Nat → Prop) (W : World), D = w.heap.size → S xs → I xs C W → W.heap[D]? = some (.deferred (some [])) → Q .normal { a with defers := { target := .collected D, args := #[] } :: a.defers } W)
    (hstop : ∀ (D : Nat) (c : Code) (pre : List α) (W : World), D = w.heap.size → Sp pre → Ix c pre W → W.heap[D]? = some (.deferred (some [])) → c.wpIn Fence.wide n P Q { a with defers := { target := .collected D, args := #[] } :: a.defers } W) :
    (Code.rangeFunc g ps assign body).wpIn Fence.wide n P Q a w := by
  refine wpIn_rangeFunc fun fn hfn => ?_
  rw [show Fence.wide.round = none from rfl]
  -- the loop's record at each of its states; where it lies, and the block of the rounds' deferred calls
  let rec_ : LoopState → Option Code → Obj := fun st pe => .loop { state := st, pending := pe, fn, tmps := a.tmps, params := ps, assign, body, defers := w.heap.size }
  let BK : LoopState → Option Code → World → Prop := fun st pe W => W.heap[w.heap.size + 1]? = some (rec_ st pe) ∧ W.heap[w.heap.size]? = some (.deferred (some []))
  have bkL : ∀ {st pe W}, BK st pe W → w.heap.size + 1 < W.heap.size := fun h => (Array.getElem?_eq_some_iff.1 h.1).1
  have bkE : ∀ {st pe W W'}, BK st pe W → Ext W W' → BK st pe W' := fun h he => ⟨(he.heap (Array.getElem?_eq_some_iff.1 h.1).1).trans h.1, (he.heap (Array.getElem?_eq_some_iff.1 h.2).1).trans h.2⟩
  have bkS : ∀ {st pe W W'} {C : Nat → Prop}, BK st pe W → St C W W' → ¬ C (w.heap.size + 1) → ¬ C w.heap.size → BK st pe W' := fun h hk h1 h2 => ⟨(hk.block _ (bkL h) h1).trans h.1, (hk.block _ (by have := bkL h; omega) h2).trans h.2⟩
  have bkP : ∀ {st pe W} (st' : LoopState) (pe' : Option Code), BK st pe W → BK st' pe' (W.putObj (w.heap.size + 1) (rec_ st' pe')) ∧ St (fun b => b = w.heap.size + 1) W (W.putObj (w.heap.size + 1) (rec_ st' pe')) := fun st' pe' h =>
    ⟨⟨World.putObj_heap_same (Array.getElem?_eq_some_iff.1 h.1).1, (World.putObj_heap_other (by omega)).trans h.2⟩, St.put h.1 rfl rfl⟩
  have e1 : Ext w (w.alloc (.deferred (some []))) := ext_obj w _ fun W i j h => by simp [World.frozen?, h]
  have e2 : Ext (w.alloc (.deferred (some []))) ((w.alloc (.deferred (some []))).alloc (rec_ .ready none)) := ext_obj _ _ fun W i j h => by simp [World.frozen?, h, rec_]
  have hrun := run_enterLoop_outer (P := P) (w := w) fn a.tmps ps assign body
  have bk1 : BK .ready none ((w.alloc (.deferred (some []))).alloc (rec_ .ready none)) :=
    ⟨by have := World.alloc_heap_new (w.alloc (.deferred (some []))) (rec_ .ready none); rwa [World.size_alloc] at this, (Below.heap_alloc _ _ _ (by simp)).trans (World.alloc_heap_new w _)⟩
  have eW := e1.trans e2
  have hs1 : w.heap.size + 2 ≤ ((w.alloc (.deferred (some []))).alloc (rec_ .ready none)).heap.size := by simp
  change _ = Result.ok _ ((w.alloc (.deferred (some []))).alloc (rec_ .ready none)) at hrun
  generalize (w.alloc (.deferred (some []))).alloc (rec_ .ready none) = W1 at *
  refine ⟨w.heap.size + 1, _, W1, { target := .fn (.func gf) lb, args := #[.func (.yield (w.heap.size + 1)) #[] #[]] }, W1, gf, #[.func (.yield (w.heap.size + 1)) #[] #[]] ++ lb, W1, hrun, ?_, ?_, ?_, fun h => by simp [Fence.wide] at h, ?_⟩
  · simp only [resolve, hg]
    simp [go_sem]
  · intro f' hf'; trivial
  · simp [invoke, go_sem, eg]
  refine callsIn_wide.2 ((hseq (w.heap.size + 1) (fun pre C W => ∃ C0 : Nat → Prop, C = (fun b => C0 b ∨ b = w.heap.size + 1) ∧ I pre C0 W ∧ (∀ b, C0 b → b < W.heap.size) ∧ ¬ C0 (w.heap.size + 1) ∧ ¬ C0 w.heap.size ∧ BK .ready none W) (fun pre W => ∃ c, Ix c pre W ∧ BK .done (some c) W) (fun b => C₀ b ∨ b = w.heap.size + 1) W1 ⟨?_, ?_⟩ (hA.trans (eW.agree hK)) (Nat.le_trans hsz eW.size) ?_
    ⟨C₀, rfl, h0 W1 eW hs1, fun b hb => by have := (hC b hb).1; omega, fun h => by have := (hC _ h).1; omega, fun h => by have := (hC _ h).1; omega, bk1⟩).mono ?_)
  · rintro pre C W ⟨C0, rfl, -, hlt, -, -, hbk⟩ b (hb | rfl)
    · exact hlt b hb
    · exact bkL hbk
  · rintro pre C x W0 Wy ⟨C0, rfl, hi, hlt, nL, nD, hbk⟩ hx hgd
    have hbk1 := bkE hbk hx
    have hl0 := bkL hbk
    refine ⟨fn, _, assign, body, run_yield (args := encs x) hbk1.1 (hps x), roundIn_of_wpIn hfn (wpIn_mono (hround pre C0 x W0 Wy hi hlt (by omega) nL hx hgd) ?_)⟩
    rintro e a3 W2 hp
    cases e with
    | normal =>
      obtain ⟨hx2, hb⟩ := hp
      have hbk2 := bkE hbk1 hx2
      obtain ⟨hbk3, ht3⟩ := bkP .busy none hbk2
      refine ⟨_, run_beginRound hbk2.1 rfl, wpIn_mono (hb _ ht3) ?_⟩
      have hl3 := bkL hbk3
      generalize W2.putObj (w.heap.size + 1) (rec_ .busy none) = W3 at *
      rintro e a4 W4 hq
      cases e with
      | normal =>
        obtain ⟨C', hi4, hst, hsub, hlt4⟩ := hq
        have hbk4 := bkS hbk3 hst nL nD
        obtain ⟨hbk5, ht5⟩ := bkP .ready none hbk4
        refine ⟨_, _, run_endRound none hbk4.1, .inl ⟨rfl, _, ⟨C', rfl, hI hi4 ht5, fun b hb => Nat.lt_of_lt_of_le (hlt4 b hb) ht5.size, fun h => ?_, fun h => ?_, hbk5⟩, ?_, ?_⟩⟩
        · rcases hsub _ h with h | h
          · exact nL h
          · omega
        · rcases hsub _ h with h | h
          · exact nD h
          · omega
        · exact (((hx2.st _).trans (ht3.mono fun i _ hi => .inr hi)).trans (hst.mono fun i _ hi => .inl hi)).trans (ht5.mono fun i _ hi => .inr hi)
        · rintro b (hb | rfl)
          · rcases hsub b hb with h | h
            · exact .inl (.inl h)
            · exact .inr (by have := hx2.size; have := ht3.size; omega)
          · exact .inl (.inr rfl)
      | ret =>
        have hbk4 := bkS hbk3 hq.1 nL nD
        obtain ⟨hbk5, ht5⟩ := bkP .done (some .ret) hbk4
        exact ⟨_, _, run_endRound (some .ret) hbk4.1, .inr ⟨rfl, ⟨.ret, hIx hq.2 ht5, hbk5⟩, (((hx2.st _).trans (ht3.mono fun i _ hi => .inr hi)).trans (hq.1.mono fun i _ hi => .inl hi)).trans (ht5.mono fun i _ hi => .inr hi)⟩⟩
      | exit id =>
        have hbk4 := bkS hbk3 hq.1 nL nD
        obtain ⟨hbk5, ht5⟩ := bkP .done (some (.exit id)) hbk4
        exact ⟨_, _, run_endRound (some (.exit id)) hbk4.1, .inr ⟨rfl, ⟨.exit id, hIx hq.2 ht5, hbk5⟩, (((hx2.st _).trans (ht3.mono fun i _ hi => .inr hi)).trans (hq.1.mono fun i _ hi => .inl hi)).trans (ht5.mono fun i _ hi => .inr hi)⟩⟩
      | goto t =>
        have hbk4 := bkS hbk3 hq.1 nL nD
        obtain ⟨hbk5, ht5⟩ := bkP .done (some (.goto t)) hbk4
        exact ⟨_, _, run_endRound (some (.goto t)) hbk4.1, .inr ⟨rfl, ⟨.goto t, hIx hq.2 ht5, hbk5⟩, (((hx2.st _).trans (ht3.mono fun i _ hi => .inr hi)).trans (hq.1.mono fun i _ hi => .inl hi)).trans (ht5.mono fun i _ hi => .inr hi)⟩⟩
      | panic ch => exact hq.elim
      | outgrown => exact hq.elim
    | ret => exact hp.elim
    | exit id => exact hp.elim
    | goto t => exact hp.elim
    | panic ch => exact hp.elim
    | outgrown => exact hp.elim
  · rintro b (hb | rfl) hk
    · exact (hC b hb).2 hk
    · have := hK _ hk; omega
  · rintro e W2 ⟨⟨v, rfl⟩, (⟨xs, C, W0, hS, ⟨C0, rfl, hi, -, -, -, hbk⟩, hx⟩ | ⟨pre, W0, hSp, ⟨c, hi, hbk⟩, hx⟩)⟩
    · have hbk2 := bkE hbk hx
      obtain ⟨hbk5, ht5⟩ := bkP .exhausted none hbk2
      exact ⟨none, _, run_endLoop hbk2.1 (by simp), hdone _ xs C0 _ rfl hS (hI hi ((hx.st _).trans ht5)) hbk5.2⟩
    · have hbk2 := bkE hbk hx
      obtain ⟨hbk5, ht5⟩ := bkP .exhausted (some c) hbk2
      exact ⟨some c, _, run_endLoop hbk2.1 (by simp), hstop _ c pre _ rfl hSp (hIx hi ((hx.st _).trans ht5)) hbk5.2⟩
theorem wpListIn_append_x {F : Fence} {n : Nat} {P : Program} (w : World) {ops : Array Oper} {rest : List Oper} {o : Oper} {a : Act} {Q : Exit → Act → World → Prop} (hgd : o.guard = none) (s' x : Operand) (t : TypeId)
    (ho : o.op = .call { callee := .builtin .append, args := #[s', x], argTypes := #[t, t] })
    (base : Nat) (e : TypeId) (i : TypeInfo) (z : Value) (size bytes : Nat) (ht : P.underlying t = some (.slice e)) (hi : P.info? e = some i) (hz : i.zero = some z)
    (hsize : i.size = size) (hby : i.bytes = bytes) (hzs : z.cells.size = size) (hsz : 0 < size)
    (s : Sl) (k : Nat) (xs : List Value) (hs : a.eval s' = .slice s.a k s.c) (hown : w.ownsRow base e size (.slice s.a k s.c) k xs)
    (G : Nat → Prop) (sx : Sl) (m : Nat) (news : List Value) (hx : a.eval x = .slice sx.a m sx.c) (hsrc : Rd w G size sx m news) (h1 : ∀ u ∈ news, u.oneCell' = true)
    (h63 : k + m ≤ maxLen) (hbytes : (k + m) * bytes ≤ 140737488355328) (hbase : base ≤ w.heap.size)
    (h : ∀ (s' : Sl) (w' : World), w'.ownsRow base e size (.slice s'.a (k + m) s'.c) (k + m) (xs ++ news) → Wr w w' s.row → (s'.a = s.a ∨ s'.a = some ⟨w.heap.size, 0, none⟩ ∧ Wr w w' none) → wpListIn F n P ops Q rest (a.put o.dst (.slice s'.a (k + m) s'.c)) w') : wpListIn F n P ops Q (o :: rest) a w := by
  refine wpListIn_plain hgd fun K hK' => ?_
  obtain ⟨v', w', hr, h2, h3, h4⟩ := run_append_x (P := P) w base t o.type e i z size bytes ht hi hz hsize hby hzs hsz s k xs hown G sx m news hsrc h1 h63 hbytes hbase
  unfold Oper.wpIn
  refine ⟨?_, ?_⟩
  · simp [Oper.about, ho, resolve, Target.leads, Sem.run_pure]
  · rw [Oper.semAt_plain F _ _ (by rw [ho]; intro c hc'; cases hc')]
    simp [execOp, ho, resolve, invoke, builtin, hs, hx, hr, Result.andThen]
    exact hK' _ _ (h v' w' h2 h3 h4)
theorem St.putV {H : Nat → Prop} {a w : World} (h : St H a w) {b : Nat} (hb : a.heap.size ≤ b ∨ H b) (o : Nat) (d : Val) (sl so : Sl) : St H a (putV w b o d sl so) :=
  (((((h.set (p := ⟨b, _, none⟩) hb _).set (p := ⟨b, _, none⟩) hb _).set (p := ⟨b, _, none⟩) hb _).set (p := ⟨b, _, none⟩) hb _).set (p := ⟨b, _, none⟩) hb _).set (p := ⟨b, _, none⟩) hb _
theorem St.putM {H : Nat → Prop} {a w : World} (h : St H a w) {b : Nat} (hb : a.heap.size ≤ b ∨ H b) (o : Nat) (k : ByteArray) (d : Val) (sl so : Sl) : St H a (putM w b o k d sl so) :=
  (h.set (p := ⟨b, _, none⟩) hb _).putV hb _ _ _ _
def numI (a b : Int) : Int := if a < b then -1 else if b < a then 1 else 0
def boolI (a b : Bool) : Int := if a = b then 0 else if b then -1 else 1
def textI (a b : ByteArray) : Int := if klt a b then -1 else if klt b a then 1 else 0
mutual
def cmpV : Val → Val → Int
  | .mk k b i t l ok ov, y =>
    if k ≠ y.kind then numI k y.kind else if k = 2 then boolI b y.b else if k = 3 then numI i y.i else if k = 4 then textI t y.t else if k = 5 then cmpL l y.l else if k = 6 then cmpM ov ok y.ok y.ov else 0
def cmpL : List Val → List Val → Int
  | [], m => if m.length = 0 then 0 else -1
  | _ :: _, [] => 1
  | a :: l, b :: m => if cmpV a b ≠ 0 then cmpV a b else cmpL l m
def cmpM : List Val → List ByteArray → List ByteArray → List Val → Int
  | [], _, _, m => if m.length = 0 then 0 else -1
  | _ :: _, _, _, [] => 1
  | a :: l, ka, kb, b :: m => if textI (ka.headD ByteArray.empty) (kb.headD ByteArray.empty) ≠ 0 then textI (ka.headD ByteArray.empty) (kb.headD ByteArray.empty) else if cmpV a b ≠ 0 then cmpV a b else cmpM l ka.tail kb.tail m
end
theorem numI_self (a : Int) : numI a a = 0 := by simp [numI]
theorem textI_self (a : ByteArray) : textI a a = 0 := by simp [textI, klt_irrefl]
theorem cmpV_self (m : Nat) : ∀ d : Val, SizeOf.sizeOf d ≤ m → cmpV d d = 0 := by
  induction m with
  | zero => intro d hd; have := Val.sz_pos d; omega
  | succ m ih =>
    intro d hd
    obtain ⟨k, b, i, t, l, ok, ov⟩ := d
    have hl : ∀ l' : List Val, SizeOf.sizeOf l' ≤ m → cmpL l' l' = 0 := by
      intro l'
      induction l' with
      | nil => intro _; simp [cmpL]
      | cons a l' ihl =>
        intro hs
        simp only [List.cons.sizeOf_spec] at hs
        simp only [cmpL]
        rw [ih a (by omega)]
        simpa using ihl (by omega)
    have ho : ∀ (l' : List Val) (kk : List ByteArray), SizeOf.sizeOf l' ≤ m → cmpM l' kk kk l' = 0 := by
      intro l'
      induction l' with
      | nil => intro kk _; simp [cmpM]
      | cons a l' ihl =>
        intro kk hs
        simp only [List.cons.sizeOf_spec] at hs
        simp only [cmpM]
        rw [ih a (by omega), textI_self]
        simpa using ihl kk.tail (by omega)
    simp only [Val.mk.sizeOf_spec] at hd
    simp only [cmpV, Val.kind, Val.b, Val.i, Val.t, Val.l, Val.ok, Val.ov]
    simp only [ne_eq, not_true_eq_false, if_false, numI_self, textI_self, hl l (by omega), ho ov ok (by omega), boolI, if_true]
    simp
theorem cmpV_refl (d : Val) : cmpV d d = 0 := cmpV_self _ d (Nat.le_refl _)
def sameE : List Ent → List Ent → Bool
  | [], [] => true
  | a :: l, b :: m => decide (a.1 = b.1) && decide (cmpV a.2 b.2 = 0) && sameE l m
  | _, _ => false
theorem sameE_refl : ∀ l : List Ent, sameE l l = true
  | [] => rfl
  | a :: l => by simp [sameE, cmpV_refl, sameE_refl l]
theorem sameE_len : ∀ {l m : List Ent}, sameE l m = true → l.length = m.length
  | [], [], _ => rfl
  | a :: l, b :: m, h => by
    simp only [sameE, Bool.and_eq_true] at h
    simp [sameE_len h.2]
  | [], _ :: _, h => by cases h
  | _ :: _, [], h => by cases h
end Go.Proofs.YtechahocffcbpaaGreatDoor
namespace Go.Proofs.YtechahocffcbpaaGreatDoor
open Go.RowKit
set_option linter.unusedVariables false
set_option linter.unusedSimpArgs false
section
variable {P : Program} (w : World)
theorem stepE_append_run {ops : Array Oper} {o : Oper} {a : Act} {K : Act → World → Prop} {Q : Exit → Act → World → Prop} {E : Prop} (hgd : o.guard = none) (d s : Operand) (t t' : TypeId)
    (ho : o.op = .call { callee := .builtin .append, args := #[d, s], argTypes := #[t, t'] }) (v u : Value) (hd : a.eval d = v) (hs : a.eval s = u) {v' : Value} {w' : World}
    (hr : (Builtin.append_ #[t, t'] o.type #[v, u]).run P w = .ok v' w') (h : K (a.put o.dst v') w') :
    if Region.wanted o (yielded ops a.tmps) = true then Oper.wp P o a w K Q else E := by
  have hw : Region.wanted o (yielded ops a.tmps) = true := by simp [Region.wanted, hgd]
  rw [if_pos hw]
  unfold Oper.wp execOp
  simp only [ho, resolve, invoke, builtin, Sem.run_bind, Sem.run_pure, Result.andThen_ok, List.map_toArray, List.map_cons, List.map_nil, hd, hs, hr]
  exact h
end
def DelPostE (base : Nat) (s : Sl) (n i : Nat) (xs : List Value) (w : World) (e : Ending) (w' : World) : Prop :=
  e = .returned (.slice s.a (n - 1) s.c) ∧ w'.ownsRow base 64 7 (.slice s.a (n - 1) s.c) (n - 1) (xs.take (i * 7) ++ xs.drop ((i + 1) * 7)) ∧ Wr w w' s.row
theorem zeroE (w : World) : (zeroValue 64).run Tryz.prog w = .ok (.agg #[.string ByteArray.empty, .int .i64 0, .bool false, .int .i64 0, .string ByteArray.empty, .slice none 0 0, .slice none 0 0]) w := by kernel_rfl
theorem delE_any {w : World} {base n i : Nat} {s : Sl} {xs : List Value} (hown : w.ownsRow base 64 7 (.slice s.a n s.c) n xs) (hn : n ≤ 1000) (hin : i < n) (h1 : ∀ u ∈ xs, u.oneCell' = true) :
    Calls Tryz.prog 110 #[.slice s.a n s.c, .int .i64 i, .int .i64 ((i : Int) + 1)] w (DelPostE base s n i xs w) := by
  obtain ⟨i0, hi, hz0, hz1, hz2⟩ := info_parts Tryz.infoEntry
  rcases hown.2 with ⟨hs, h0⟩ | ⟨g, cap, cur, hs, hbg, hg, hnc, hcm, hcs, htake⟩
  · omega
  simp only [Value.slice.injEq] at hs
  obtain ⟨ha, -, hc⟩ := hs
  have hs' : s = ⟨some ⟨g, 0, none⟩, cap⟩ := by cases s; simp_all
  have hxl := hown.1
  subst hs'
  clear hown ha hc
  have hic : i ≤ cap := by omega
  have hin' : (i : Int) < (n : Int) := by omega
  have hin1 : (i : Int) + 1 ≤ (n : Int) := by omega
  have hi0 : (0 : Int) ≤ (i : Int) := by omega
  have hib : (0 : Int) ≤ (i : Int) + 1 := by omega
  have hii : (i : Int) ≤ (i : Int) + 1 := by omega
  have hne : ((i : Int) == (i : Int) + 1) = false := beq_eq_false_iff_ne.2 (by omega)
  have hcm' : (cap : Int) ≤ 9223372036854775807 := by unfold maxLen at hcm; omega
  have hncI : (n : Int) ≤ (cap : Int) := by omega
  have htn : ((i : Int) + 1).toNat = i + 1 := by omega
  obtain ⟨news, hnews⟩ : ∃ news, news = xs.drop ((i + 1) * 7) := ⟨_, rfl⟩
  have hnl : news.length = (n - (i + 1)) * 7 := by rw [hnews, List.length_drop, hxl, ← Nat.sub_mul]
  have hn1 : ∀ u ∈ news, u.oneCell' = true := fun u hu => h1 u (List.mem_of_mem_drop (hnews ▸ hu))
  obtain ⟨A, hA, hsrc⟩ : ∃ A : Addr, (if cap = i + 1 then some (⟨g, 0, none⟩ : Addr) else some ⟨g, (i + 1) * 7, none⟩) = some A ∧ (∀ j u, news[j]? = some u → w.drew.cell? (A.add j) = some u) := by
    by_cases h : cap = i + 1
    · refine ⟨⟨g, 0, none⟩, by simp [h], fun t u hu => ?_⟩
      have h0 : news.length = 0 := by rw [hnl, show n - (i + 1) = 0 from by omega, Nat.zero_mul]
      rw [List.length_eq_zero_iff.1 h0] at hu
      simp at hu
    · refine ⟨⟨g, (i + 1) * 7, none⟩, by simp [h], fun j u hu => ?_⟩
      rw [add_at, World.cell?_drew, cell_of_row w g _ cur 64 (0, 0) hg]
      rw [hnews, List.getElem?_drop, ← htake, List.getElem?_take] at hu
      split at hu
      · simpa [Nat.add_comm, Nat.add_left_comm, Nat.add_assoc, Nat.mul_comm] using hu
      · cases hu
  obtain ⟨A1, hA1⟩ : ∃ A1, A1 = (cur.toList.take (i * 7) ++ news ++ cur.toList.drop (i * 7 + news.length)).toArray := ⟨_, rfl⟩
  have hfit : i * 7 + news.length ≤ cur.size := by rw [hnl, hcs]; omega
  have hs1 : A1.size = cur.size := by rw [hA1]; simp; omega
  obtain ⟨W1, hW1⟩ : ∃ W1, W1 = w.drew.setRow g A1 := ⟨_, rfl⟩
  have hap : ∀ ty, (Builtin.append_ #[48, 48] ty #[.slice (some ⟨g, 0, none⟩) i cap, .slice (some A) (n - (i + 1)) (cap - (i + 1))]).run Tryz.prog w.drew = .ok (.slice (some ⟨g, 0, none⟩) (n - 1) cap) W1 := fun ty => by
    have h := run_append_room (P := Tryz.prog) w.drew 48 ty 64 i0 Tryz.underlying48 hi g i cap cur hg A (n - (i + 1)) (cap - (i + 1)) news (by rw [hz1]; exact hnl) hsrc hn1 (by omega) (by rw [hz1]; exact hfit)
    rw [hz1] at h
    rw [hW1, hA1, h, show i + (n - (i + 1)) = n - 1 from by omega]
  have hg1 : W1.heap[g]? = some (.cells A1 64 (0, 0)) := by rw [hW1]; exact setRow_heap w.drew g cur A1 64 (0, 0) hg
  obtain ⟨Z, hZ⟩ : ∃ Z, Z = ((.agg #[.string ByteArray.empty, .int .i64 0, .bool false, .int .i64 0, .string ByteArray.empty, .slice none 0 0, .slice none 0 0]) : Value) := ⟨_, rfl⟩
  have hzv : ∀ w, (zeroValue 64).run Tryz.prog w = .ok Z w := fun w => by rw [hZ]; exact zeroE w
  obtain ⟨zs, hzs⟩ : ∃ zs, zs = (Builtin.zeroCells Z.cells 1).toList := ⟨_, rfl⟩
  have hzl : zs.length = 7 := by rw [hzs, Array.length_toList, size_zeroCells, hZ]; rfl
  have hz1c : ∀ u ∈ zs, u.oneCell' = true := by
    have : zs.all (·.oneCell') = true := by rw [hzs, hZ]; kernel_rfl
    exact fun u hu => List.all_eq_true.1 this u hu
  obtain ⟨A2, hA2⟩ : ∃ A2, A2 = (A1.toList.take ((n - 1) * 7) ++ zs ++ A1.toList.drop ((n - 1) * 7 + zs.length)).toArray := ⟨_, rfl⟩
  obtain ⟨W2, hW2⟩ : ∃ W2, W2 = W1.setRow g A2 := ⟨_, rfl⟩
  have hst := run_storeCells_at Tryz.prog g ((n - 1) * 7) 64 zs 0 A1 W1 hg1 (by rw [hzl, hs1, hcs]; omega) hz1c
  have hcl : ∀ ty c, (Builtin.clear_ #[48] ty #[.slice (some ⟨g, (n - 1) * 7, none⟩) 1 c]).run Tryz.prog W1 = .ok (.tuple #[]) W2 := fun ty c => by
    simp only [Nat.add_zero] at hst
    rw [← hA2, ← hW2] at hst
    rw [hzs] at hst
    simp [Builtin.clear_, run_underlying Tryz.underlying48, hzv, hst]
  have hg2 : W2.heap[g]? = some (.cells A2 64 (0, 0)) := by rw [hW2]; exact setRow_heap W1 g A1 A2 64 (0, 0) hg1
  have hwr : Wr w W2 (some g) := by
    rw [hW2, hW1]
    exact ((Wr.refl w (some g)).drew.trans (Wr.setRow w.drew A1) (fun i hi => .inl hi)).trans (Wr.setRow (w.drew.setRow g A1) A2) (fun i hi => .inl hi)
  have hfin : W2.ownsRow base 64 7 (.slice (some ⟨g, 0, none⟩) (n - 1) cap) (n - 1) (xs.take (i * 7) ++ xs.drop ((i + 1) * 7)) := by
    have ht : xs.take (i * 7) = cur.toList.take (i * 7) := by rw [← htake, List.take_take, Nat.min_eq_left (by omega)]
    refine ⟨by simp [hxl]; omega, .inr ⟨g, cap, A2, rfl, hbg, hg2, by omega, hcm, by rw [hA2]; simp; omega, ?_⟩⟩
    have hl2 : (cur.toList.take (i * 7) ++ news).length = (n - 1) * 7 := by rw [List.length_append, List.length_take, Array.length_toList, hnl]; omega
    rw [← hnews, ht, hA2]
    simp only [List.toList_toArray, List.append_assoc]
    rw [List.take_append_of_le_length (by rw [List.length_take, Array.length_toList]; omega), List.take_take, Nat.min_eq_left (by omega), hA1]
    simp only [List.toList_toArray]
    rw [List.take_append_of_le_length (by omega), List.take_of_length_le (by omega)]
  have HF := Lib.hid hfin
  have HW := Lib.hid hwr
  have HA := Lib.hid hA
  have hnm : ((n - 1 : Nat) : Int) < (n : Int) := by omega
  have hnm2 : ¬ cap = n - 1 := by omega
  have hnm3 : n - (n - 1) = 1 := by omega
  have hnm4 : ((n - 1 : Nat) : Int) ≤ (n : Int) := by omega
  clear hfin hwr hzv hZ hg2 hg1 hst hs1 hW2 hW1 hA2 hA1 hsrc hnl hn1 hnews hfit hg hcs htake h1 hxl hzl hz1c hzs
  go_enter Tryz.func110, Tryz.ntmps110
  go_wp2_with fail
  go_region_law (refine stepE_append_run _ rfl _ _ 48 48 rfl _ _ (by simp [Act.eval, Act.put]) (by simp [Act.eval, Act.put]) (hap _) ?_)
  go_wp2_with fail
  go_ret
  exact ⟨rfl, HF.out, HW.out⟩
section
variable {P : Program} (w : World)
theorem stepN_append_run {ops : Array Oper} {o : Oper} {a : Act} {K : Act → World → Prop} {Q : Exit → Act → World → Prop} {E : Prop} (hgd : o.guard = none) (d s : Operand) (t t' : TypeId)
    (ho : o.op = .call { callee := .builtin .append, args := #[d, s], argTypes := #[t, t'] }) (v u : Value) (hd : a.eval d = v) (hs : a.eval s = u) {v' : Value} {w' : World}
    (hr : (Builtin.append_ #[t, t'] o.type #[v, u]).run P w = .ok v' w') (h : K (a.put o.dst v') w') :
    if Region.wanted o (yielded ops a.tmps) = true then Oper.wp P o a w K Q else E := by
  have hw : Region.wanted o (yielded ops a.tmps) = true := by simp [Region.wanted, hgd]
  rw [if_pos hw]
  unfold Oper.wp execOp
  simp only [ho, resolve, invoke, builtin, Sem.run_bind, Sem.run_pure, Result.andThen_ok, List.map_toArray, List.map_cons, List.map_nil, hd, hs, hr]
  exact h
end
def DelPostN (base : Nat) (s : Sl) (n i : Nat) (xs : List Value) (w : World) (e : Ending) (w' : World) : Prop :=
  e = .returned (.slice s.a (n - 1) s.c) ∧ w'.ownsRow base 23 1 (.slice s.a (n - 1) s.c) (n - 1) (xs.take (i * 1) ++ xs.drop ((i + 1) * 1)) ∧ Wr w w' s.row
theorem zeroN (w : World) : (zeroValue 23).run Tryz.prog w = .ok (.pointer none) w := by kernel_rfl
theorem delN_any {w : World} {base n i : Nat} {s : Sl} {xs : List Value} (hown : w.ownsRow base 23 1 (.slice s.a n s.c) n xs) (hn : n ≤ 1000) (hin : i < n) (h1 : ∀ u ∈ xs, u.oneCell' = true) :
    Calls Tryz.prog 165 #[.slice s.a n s.c, .int .i64 i, .int .i64 ((i : Int) + 1)] w (DelPostN base s n i xs w) := by
  obtain ⟨i0, hi, hz0, hz1, hz2⟩ := info_parts Tryz.infoPNode
  rcases hown.2 with ⟨hs, h0⟩ | ⟨g, cap, cur, hs, hbg, hg, hnc, hcm, hcs, htake⟩
  · omega
  simp only [Value.slice.injEq] at hs
  obtain ⟨ha, -, hc⟩ := hs
  have hs' : s = ⟨some ⟨g, 0, none⟩, cap⟩ := by cases s; simp_all
  have hxl := hown.1
  subst hs'
  clear hown ha hc
  have hic : i ≤ cap := by omega
  have hin' : (i : Int) < (n : Int) := by omega
  have hin1 : (i : Int) + 1 ≤ (n : Int) := by omega
  have hi0 : (0 : Int) ≤ (i : Int) := by omega
  have hib : (0 : Int) ≤ (i : Int) + 1 := by omega
  have hii : (i : Int) ≤ (i : Int) + 1 := by omega
  have hne : ((i : Int) == (i : Int) + 1) = false := beq_eq_false_iff_ne.2 (by omega)
  have hcm' : (cap : Int) ≤ 9223372036854775807 := by unfold maxLen at hcm; omega
  have hncI : (n : Int) ≤ (cap : Int) := by omega
  have htn : ((i : Int) + 1).toNat = i + 1 := by omega
  obtain ⟨news, hnews⟩ : ∃ news, news = xs.drop ((i + 1) * 1) := ⟨_, rfl⟩
  have hnl : news.length = (n - (i + 1)) * 1 := by rw [hnews, List.length_drop, hxl, ← Nat.sub_mul]
  have hn1 : ∀ u ∈ news, u.oneCell' = true := fun u hu => h1 u (List.mem_of_mem_drop (hnews ▸ hu))
  obtain ⟨A, hA, hsrc⟩ : ∃ A : Addr, (if cap = i + 1 then some (⟨g, 0, none⟩ : Addr) else some ⟨g, i + 1, none⟩) = some A ∧ (∀ j u, news[j]? = some u → w.drew.cell? (A.add j) = some u) := by
    by_cases h : cap = i + 1
    · refine ⟨⟨g, 0, none⟩, by simp [h], fun t u hu => ?_⟩
      have h0 : news.length = 0 := by rw [hnl, show n - (i + 1) = 0 from by omega, Nat.zero_mul]
      rw [List.length_eq_zero_iff.1 h0] at hu
      simp at hu
    · refine ⟨⟨g, i + 1, none⟩, by simp [h], fun j u hu => ?_⟩
      rw [add_at, World.cell?_drew, cell_of_row w g _ cur 23 (0, 0) hg]
      rw [hnews, List.getElem?_drop, ← htake, List.getElem?_take] at hu
      split at hu
      · simpa [Nat.add_comm, Nat.add_left_comm, Nat.add_assoc, Nat.mul_comm] using hu
      · cases hu
  obtain ⟨A1, hA1⟩ : ∃ A1, A1 = (cur.toList.take (i * 1) ++ news ++ cur.toList.drop (i * 1 + news.length)).toArray := ⟨_, rfl⟩
  have hfit : i * 1 + news.length ≤ cur.size := by rw [hnl, hcs]; omega
  have hs1 : A1.size = cur.size := by rw [hA1]; simp; omega
  obtain ⟨W1, hW1⟩ : ∃ W1, W1 = w.drew.setRow g A1 := ⟨_, rfl⟩
  have hap : ∀ ty, (Builtin.append_ #[119, 119] ty #[.slice (some ⟨g, 0, none⟩) i cap, .slice (some A) (n - (i + 1)) (cap - (i + 1))]).run Tryz.prog w.drew = .ok (.slice (some ⟨g, 0, none⟩) (n - 1) cap) W1 := fun ty => by
    have h := run_append_room (P := Tryz.prog) w.drew 119 ty 23 i0 Tryz.underlying119 hi g i cap cur hg A (n - (i + 1)) (cap - (i + 1)) news (by rw [hz1]; exact hnl) hsrc hn1 (by omega) (by rw [hz1]; exact hfit)
    rw [hz1] at h
    rw [hW1, hA1, h, show i + (n - (i + 1)) = n - 1 from by omega]
  have hg1 : W1.heap[g]? = some (.cells A1 23 (0, 0)) := by rw [hW1]; exact setRow_heap w.drew g cur A1 23 (0, 0) hg
  obtain ⟨Z, hZ⟩ : ∃ Z, Z = ((.pointer none) : Value) := ⟨_, rfl⟩
  have hzv : ∀ w, (zeroValue 23).run Tryz.prog w = .ok Z w := fun w => by rw [hZ]; exact zeroN w
  obtain ⟨zs, hzs⟩ : ∃ zs, zs = (Builtin.zeroCells Z.cells 1).toList := ⟨_, rfl⟩
  have hzl : zs.length = 1 := by rw [hzs, Array.length_toList, size_zeroCells, hZ]; rfl
  have hz1c : ∀ u ∈ zs, u.oneCell' = true := by
    have : zs.all (·.oneCell') = true := by rw [hzs, hZ]; kernel_rfl
    exact fun u hu => List.all_eq_true.1 this u hu
  obtain ⟨A2, hA2⟩ : ∃ A2, A2 = (A1.toList.take (n - 1) ++ zs ++ A1.toList.drop (n - 1 + zs.length)).toArray := ⟨_, rfl⟩
  obtain ⟨W2, hW2⟩ : ∃ W2, W2 = W1.setRow g A2 := ⟨_, rfl⟩
  have hst := run_storeCells_at Tryz.prog g (n - 1) 23 zs 0 A1 W1 hg1 (by rw [hzl, hs1, hcs]; omega) hz1c
  have hcl : ∀ ty c, (Builtin.clear_ #[119] ty #[.slice (some ⟨g, n - 1, none⟩) 1 c]).run Tryz.prog W1 = .ok (.tuple #[]) W2 := fun ty c => by
    simp only [Nat.add_zero] at hst
    rw [← hA2, ← hW2] at hst
    rw [hzs] at hst
    simp [Builtin.clear_, run_underlying Tryz.underlying119, hzv, hst]
  have hg2 : W2.heap[g]? = some (.cells A2 23 (0, 0)) := by rw [hW2]; exact setRow_heap W1 g A1 A2 23 (0, 0) hg1
  have hwr : Wr w W2 (some g) := by
    rw [hW2, hW1]
    exact ((Wr.refl w (some g)).drew.trans (Wr.setRow w.drew A1) (fun i hi => .inl hi)).trans (Wr.setRow (w.drew.setRow g A1) A2) (fun i hi => .inl hi)
  have hfin : W2.ownsRow base 23 1 (.slice (some ⟨g, 0, none⟩) (n - 1) cap) (n - 1) (xs.take (i * 1) ++ xs.drop ((i + 1) * 1)) := by
    have ht : xs.take (i * 1) = cur.toList.take (i * 1) := by rw [← htake, List.take_take, Nat.min_eq_left (by omega)]
    refine ⟨by simp [hxl]; omega, .inr ⟨g, cap, A2, rfl, hbg, hg2, by omega, hcm, by rw [hA2]; simp; omega, ?_⟩⟩
    have hl2 : (cur.toList.take (i * 1) ++ news).length = (n - 1) * 1 := by rw [List.length_append, List.length_take, Array.length_toList, hnl]; omega
    rw [← hnews, ht, hA2]
    simp only [List.toList_toArray, List.append_assoc]
    rw [List.take_append_of_le_length (by rw [List.length_take, Array.length_toList]; omega), List.take_take, Nat.min_eq_left (by omega), hA1]
    simp only [List.toList_toArray]
    rw [List.take_append_of_le_length (by omega), List.take_of_length_le (by omega)]
  have HF := Lib.hid hfin
  have HW := Lib.hid hwr
  have HA := Lib.hid hA
  have hnm : ((n - 1 : Nat) : Int) < (n : Int) := by omega
  have hnm2 : ¬ cap = n - 1 := by omega
  have hnm3 : n - (n - 1) = 1 := by omega
  have hnm4 : ((n - 1 : Nat) : Int) ≤ (n : Int) := by omega
  clear hfin hwr hzv hZ hg2 hg1 hst hs1 hW2 hW1 hA2 hA1 hsrc hnl hn1 hnews hfit hg hcs htake h1 hxl hzl hz1c hzs
  go_enter Tryz.func165, Tryz.ntmps165
  go_wp2_with fail
  go_region_law (refine stepN_append_run _ rfl _ _ 119 119 rfl _ _ (by simp [Act.eval, Act.put]) (by simp [Act.eval, Act.put]) (hap _) ?_)
  go_wp2_with fail
  go_ret
  exact ⟨rfl, HF.out, HW.out⟩
theorem Blk.c3 {w : World} {g : Nat} {t : TypeId} {v0 v1 v2 : Value} (h : Blk w g t #[v0, v1, v2]) : w.cell? ⟨g, 0, none⟩ = some v0 ∧ w.cell? ⟨g, 1, none⟩ = some v1 ∧ w.cell? ⟨g, 2, none⟩ = some v2 := ⟨h.cell 0, h.cell 1, h.cell 2⟩
theorem RV.flat (w : World) (F : Nat → Prop) (kind : Int) (b : Bool) (i : Int) (t : ByteArray) (hk : (Lit.int .i64 kind).wf = true) (hi : (Lit.int .i64 i).wf = true) (ht : t.size ≤ maxLen) : RV w F (.mk kind b i t [] [] []) Sl.none Sl.none :=
  .mk 0 0 0 0 (fun _ => (Sl.none, Sl.none)) (fun _ => (Sl.none, Sl.none)) (.nil _ _) (.nil _ _) rfl (fun _ _ h => by simp at h) (fun _ _ h => by simp at h) (fun _ _ h => by simp at h) (fun _ _ h => by simp at h) (fun _ _ h => by simp at h) hk hi ht (by simp) (by simp)
theorem IsT.lt {w : World} {F : Nat → Prop} {T : RT} (h : IsT w F T) {a : Nat} (ha : rootV T = .pointer (some ⟨a, 0, none⟩)) : a < w.heap.size := by
  match T, h with
  | none, _ => cases ha
  | some ⟨n, t⟩, h =>
    simp only [rootV, ptr, Value.pointer.injEq, Option.some.injEq, Addr.mk.injEq, and_true] at ha
    subst ha
    obtain ⟨-, _, _, _, _, -, hb⟩ := IsN.cells h
    exact hb.lt
theorem pos_split (es : List Ent) (k : ByteArray) (hs : Sorted es) : (∀ e ∈ es.take (posE es k), klt e.1 k = true) ∧ (∀ e ∈ es.drop (posE es k), klt e.1 k = false) := by
  have e1 : es.take (posE es k) = es.takeWhile fun e => klt e.1 k := (List.prefix_iff_eq_take.1 (List.takeWhile_prefix (l := es) (fun e : Ent => klt e.1 k))).symm
  have e2 : es.drop (posE es k) = es.dropWhile fun e => klt e.1 k := by
    have h1 := List.take_append_drop (posE es k) es
    rw [e1] at h1
    have h2 := List.takeWhile_append_dropWhile (p := fun e : Ent => klt e.1 k) (l := es)
    exact List.append_cancel_left (h1.trans h2.symm)
  refine ⟨fun e he => ?_, fun e he => ?_⟩
  · rw [e1] at he
    exact List.all_eq_true.1 (List.all_takeWhile (l := es) (p := fun e : Ent => klt e.1 k)) e he
  · have hsd : Sorted (es.drop (posE es k)) := List.Pairwise.sublist (List.drop_sublist _ _) hs
    rw [e2] at he hsd
    cases hd : es.dropWhile fun e => klt e.1 k with
    | nil => rw [hd] at he; cases he
    | cons x xs =>
      rw [hd] at he hsd
      have hx : klt x.1 k = false := by
        have := List.head?_dropWhile_not (fun e : Ent => klt e.1 k) es
        rw [hd] at this
        simpa using this
      rcases List.mem_cons.1 he with rfl | he
      · exact hx
      · have := (List.pairwise_cons.1 hsd).1 e he
        cases hc : klt e.1 k
        · rfl
        · rw [klt_trans this hc] at hx; cases hx
theorem getE_pos {es : List Ent} (hs : Sorted es) (k : ByteArray) : getE es k = (es[posE es k]?).bind fun e => if e.1 = k then some e.2 else none := by
  obtain ⟨hA, hB⟩ := pos_split es k hs
  have hsd : Sorted (es.drop (posE es k)) := List.Pairwise.sublist (List.drop_sublist _ _) hs
  conv => lhs; rw [← List.take_append_drop (posE es k) es]
  rw [getE_app hA, ← Nat.add_zero (posE es k), ← List.getElem?_drop, Nat.add_zero]
  cases hd : es.drop (posE es k) with
  | nil => rfl
  | cons x xs =>
    rw [hd] at hsd hB
    simp only [List.getElem?_cons_zero, Option.bind_some, getE]
    by_cases hx : x.1 = k
    · simp [hx]
    · simp only [hx, if_false]
      refine getE_none fun e he => ?_
      have h1 := klt_of_not (hB x (List.mem_cons_self ..)) hx
      have h2 := klt_trans h1 ((List.pairwise_cons.1 hsd).1 e he)
      rintro rfl
      rw [klt_irrefl] at h2; cases h2
theorem delE_pos {es : List Ent} (hs : Sorted es) (k : ByteArray) : delE es k = if (es[posE es k]?).map Prod.fst = some k then es.take (posE es k) ++ es.drop (posE es k + 1) else es := by
  obtain ⟨hA, hB⟩ := pos_split es k hs
  conv => lhs; rw [← List.take_append_drop (posE es k) es]
  rw [delE_app hA, delE_at hB, List.head?_drop, List.tail_drop]
  split
  · rfl
  · rw [List.take_append_drop]
def GetPost (o : Option Val) (w : World) (e : Ending) (w' : World) : Prop :=
  ∃ sl so, e = .returned (.tuple #[aggV (o.getD zeroV) sl so, .bool o.isSome]) ∧ Ext w w' ∧ RV w' (In w.heap.size w'.heap.size) (o.getD zeroV) sl so
/-- The closure of get. -/
theorem get1_any {W : World} {nv : Value} {b1 b2 : Nat} {k k' : ByteArray} {v : Val} {i : Nat} (h1 : W.cell? ⟨b1, 0, none⟩ = some nv) (h2 : W.cell? ⟨b2, 0, none⟩ = some (.string k))
    (hp : ∃ p, nv = .pointer p) (hc : Calls Tryz.prog 75 #[nv, .int .i64 i] W (EntryPost k' v W)) :
    Calls Tryz.prog 74 #[.int .i64 i, .pointer (some ⟨b1, 0, none⟩), .pointer (some ⟨b2, 0, none⟩)] W fun e w' => e = .returned (.bool !(klt k' k)) ∧ Ext W w' := by
  obtain ⟨p, rfl⟩ := hp
  have hb2 := World.block_lt_of_cell? W _ h2
  go_enter Tryz.func74, Tryz.ntmps74
  go_wp2_with fail
  refine hc.mono ?_
  rintro e w1 ⟨sl, so, rfl, hx, -⟩
  have q2 := (hx.cell hb2).trans h2
  have l2 : b2 < w1.heap.size := Nat.lt_of_lt_of_le hb2 hx.size
  have HX := Lib.hid hx
  clear hc hx h2
  go_wp2
  go_ret
  exact ⟨rfl, HX.out.alloc _ _⟩
structure GetS (w : World) (nv : Value) (k : ByteArray) (W : World) : Prop where
  ext : Ext w W
  b0 : Blk W w.heap.size 23 #[nv]
  b1 : Blk W (w.heap.size + 1) 9 #[.string k]
  b2 : Blk W (w.heap.size + 1 + 1) 34 #[.int .i64 0, .bool false, .int .i64 0, .string ByteArray.empty, .slice none 0 0, .slice none 0 0]
theorem GetS.step {w W W' : World} {nv : Value} {k : ByteArray} (h : GetS w nv k W) (he : Ext W W') : GetS w nv k W' := ⟨h.ext.trans he, h.b0.ext he, h.b1.ext he, h.b2.ext he⟩
theorem entry_nil (w : World) (i : Int) : Calls Tryz.prog 75 #[.pointer none, .int .i64 i] w fun e w' => e = .returned (.tuple #[aggE ByteArray.empty zeroV Sl.none Sl.none, .bool false]) ∧ Ext w w' := by
  go_enter Tryz.func75, Tryz.ntmps75
  go_wp2_with fail
  refine bodyPost_ret (v := .tuple #[aggE ByteArray.empty zeroV Sl.none Sl.none, .bool false]) (by simp [results, Tryz.results75, go_sem]; exact ⟨rfl, rfl, rfl, rfl, rfl, rfl, rfl⟩) rfl ⟨rfl, (Ext.refl w).alloc _ _⟩
theorem get_leaf {w : World} {nv : Value} {es : List Ent} (hp : ∃ p, nv = .pointer p) (hh : ∀ W, Ext w W → Calls Tryz.prog 69 #[nv] W fun e w' => e = .returned (.int .i64 0) ∧ W = w')
    (hz : ∀ W, Ext w W → Calls Tryz.prog 73 #[nv] W fun e w' => e = .returned (.int .i64 es.length) ∧ ∃ q, w' = W.drewN q)
    (he : ∀ W, Ext w W → ∀ (i : Nat) (e : Ent), es[i]? = some e → Calls Tryz.prog 75 #[nv, .int .i64 i] W (EntryPost e.1 e.2 W))
    (hno : ∀ W, Ext w W → ∀ i : Nat, es.length ≤ i → Calls Tryz.prog 75 #[nv, .int .i64 i] W fun e w' => e = .returned (.tuple #[aggE ByteArray.empty zeroV Sl.none Sl.none, .bool false]) ∧ Ext W w')
    (hs : Sorted es) (hl : es.length ≤ 1000) (k : ByteArray) : Calls Tryz.prog 42 #[nv, .string k] w (GetPost (getE es k) w) := by
  have HH := Lib.hid hh
  have HZ := Lib.hid hz
  have HE := Lib.hid he
  have HNO := Lib.hid hno
  have HS := Lib.hid hs
  obtain ⟨pp, rfl⟩ := hp
  clear hh hz he hno hs
  have hsr : ∀ W, GetS w (.pointer pp) k W → Calls Tryz.prog 72 #[.int .i64 es.length, .func (.func 74) #[] #[.pointer (some ⟨w.heap.size, 0, none⟩), .pointer (some ⟨w.heap.size + 1, 0, none⟩)]] W (SearchPost es.length (fun i => !(klt ((es[i]?.map Prod.fst).getD ByteArray.empty) k)) W) := by
    intro W hW
    refine search_any 74 _ _ es.length _ W (enters_of Tryz.func74 (by kernel_rfl) rfl) (by omega) ?_ ?_
    · intro i W' hi hW'
      obtain ⟨x, hx⟩ : ∃ x, es[i]? = some x := ⟨_, List.getElem?_eq_getElem hi⟩
      rw [hx]
      have hS := hW.step hW'
      exact get1_any (hS.b0.cell 0) (hS.b1.cell 0) ⟨_, rfl⟩ (HE.out W' hS.ext i x hx)
    · intro i j hij hj hpi
      by_cases hij' : i = j
      · subst hij'; exact hpi
      · obtain ⟨x, hx⟩ : ∃ x, es[i]? = some x := ⟨_, List.getElem?_eq_getElem (by omega)⟩
        obtain ⟨y, hy⟩ : ∃ y, es[j]? = some y := ⟨_, List.getElem?_eq_getElem hj⟩
        have hxy := sorted_lt HS.out (i := i) (j := j) (by omega) hx hy
        rw [hx] at hpi; rw [hy]
        simp only [Option.map_some, Option.getD_some, Bool.not_eq_true'] at hpi ⊢
        cases hyk : klt y.1 k
        · rfl
        · have := klt_trans hxy hyk
          rw [hpi] at this; cases this
  go_enter Tryz.func42, Tryz.ntmps42
  go_wp2_with fail
  generalize hW0 : World.alloc _ _ = W0
  obtain ⟨hx0, hz0, hb0, hb1, hb2⟩ := three_blocks w _ _ _ _ _ _ W0 hW0
  have hS0 : GetS w (.pointer pp) k W0 := ⟨hx0, hb0, hb1, hb2⟩
  have HS0 := Lib.hid hS0
  have q0 : W0.cell? ⟨w.heap.size, 0, none⟩ = some (.pointer pp) := hb0.cell 0
  clear hW0 hb0 hb1 hb2 hS0
  refine (HH.out W0 hx0).mono ?_
  rintro e w1 ⟨rfl, rfl⟩
  go_wp2_with fail
  refine (HZ.out W0 hx0).mono ?_
  rintro e w1 ⟨rfl, q, rfl⟩
  go_wp2_with fail
  refine (hsr _ (HS0.out.step ((Ext.refl _).drewN q))).mono ?_
  rintro e w1 ⟨p, rfl, hp, hlo, hhi, he1⟩
  have hS1 := HS0.out.step (((Ext.refl _).drewN q).trans he1)
  have HS1 := Lib.hid hS1
  have r0 : w1.cell? ⟨w.heap.size, 0, none⟩ = some (.pointer pp) := hS1.b0.cell 0
  have hpos : posE es k = p := posE_of hp (fun i e hi he => by
      have : (!(klt ((es[i]?.map Prod.fst).getD ByteArray.empty) k)) = false := hlo i hi
      rw [he] at this
      simpa using this) (fun e he => by
      have : (!(klt ((es[p]?.map Prod.fst).getD ByteArray.empty) k)) = true := hhi p (Nat.le_refl _) (List.getElem?_eq_some_iff.1 he).1
      rw [he] at this
      simpa using this)
  have hget : getE es k = (es[p]?).bind fun e => if e.1 = k then some e.2 else none := by rw [getE_pos HS.out, hpos]
  have HG := Lib.hid hget
  clear hlo hhi hpos hsr he1 hS1 q0 hget hx0 hz0
  go_wp2_with fail
  by_cases hlt : p < es.length
  · obtain ⟨x, hx⟩ : ∃ x, es[p]? = some x := ⟨_, List.getElem?_eq_getElem hlt⟩
    have hc := HE.out w1 HS1.out.ext p x hx
    have HX := Lib.hid hx
    clear hx
    refine hc.mono ?_
    rintro e w2 ⟨sl, so, rfl, hx2, hrv⟩
    have hS2 := HS1.out.step hx2
    have HS2 := Lib.hid hS2
    have q1 : w2.cell? ⟨w.heap.size + 1, 0, none⟩ = some (.string k) := hS2.b1.cell 0
    obtain ⟨c0, c1, c2, c3, c4, c5⟩ := hS2.b2.c6
    have f2 := hS2.b2.frozen
    have l2 := hS2.b2.lt
    have l1 : w.heap.size + 1 < w2.heap.size := by omega
    have HRV := Lib.hid hrv
    clear hS2 hx2 hrv hc
    by_cases hk : x.1 = k
    · have hkb : (x.1.toList == k.toList) = true := by rw [beq_toList]; simpa using hk
      have hg : getE es k = some x.2 := by rw [HG.out, HX.out]; simp [hk]
      have HGG := Lib.hid hg
      clear hk hg
      go_wp2_with fail
      refine bodyPost_ret (v := .tuple #[aggV x.2 sl so, .bool true]) (by simp [results, Tryz.results42, go_sem, c0, c1, c2, c3, c4, c5, l2]) rfl ?_
      have hE := HS2.out.ext.putV (b := w.heap.size + 1 + 1) (by omega) 0 x.2 sl so
      have hr := (HRV.out.mono (G := In w.heap.size w2.heap.size) fun i hi => ⟨Nat.le_trans HS1.out.ext.size hi.1, hi.2⟩)
      have hr2 : RV w2 (fun b => In w.heap.size w2.heap.size b ∧ b ≠ w.heap.size + 1 + 1) x.2 sl so := HRV.out.mono fun i hi => ⟨⟨Nat.le_trans HS1.out.ext.size hi.1, hi.2⟩, by have := HS1.out.b2.lt; have := hi.1; omega⟩
      have hr3 := hr2.agree (putV_agree w2 (w.heap.size + 1 + 1) 0 x.2 sl so (F := fun b => In w.heap.size w2.heap.size b ∧ b ≠ w.heap.size + 1 + 1) (fun h => h.2 rfl))
      refine ⟨sl, so, by rw [HGG.out]; rfl, hE.alloc _ _, ?_⟩
      rw [HGG.out]
      refine (hr3.agree (Agree.alloc _ _ (fun b hb => by rw [putV_size]; exact hb.1.2))).mono fun i hi => ⟨hi.1.1, ?_⟩
      have := hi.1.2
      simp; omega
    · have hkb : (x.1.toList == k.toList) = false := by rw [beq_toList]; simpa using hk
      have hg : getE es k = none := by rw [HG.out, HX.out]; simp [hk]
      have HGG := Lib.hid hg
      clear hk hg
      go_wp2_with fail
      refine bodyPost_ret (v := .tuple #[aggV zeroV Sl.none Sl.none, .bool false]) (by simp [results, Tryz.results42, go_sem, c0, c1, c2, c3, c4, c5, l2]; exact ⟨rfl, rfl, rfl, rfl, rfl, rfl⟩) rfl ?_
      have hE := HS2.out.ext.putV (b := w.heap.size + 1 + 1) (by omega) 0 zeroV Sl.none Sl.none
      exact ⟨Sl.none, Sl.none, by rw [HGG.out]; rfl, hE.alloc _ _, by rw [HGG.out]; exact RV.flat _ _ _ _ _ _ rfl rfl (by decide)⟩
  · have hnn : es[p]? = none := List.getElem?_eq_none (by omega)
    have hg : getE es k = none := by rw [HG.out, hnn]; rfl
    have hc := HNO.out w1 HS1.out.ext p (by omega)
    have HGG := Lib.hid hg
    clear hg hnn
    refine hc.mono ?_
    rintro e w2 ⟨rfl, hx2⟩
    have hS2 := HS1.out.step hx2
    have HS2 := Lib.hid hS2
    obtain ⟨c0, c1, c2, c3, c4, c5⟩ := hS2.b2.c6
    have f2 := hS2.b2.frozen
    have l2 := hS2.b2.lt
    clear hS2 hx2 hc
    go_wp2_with fail
    refine bodyPost_ret (v := .tuple #[aggV zeroV Sl.none Sl.none, .bool false]) (by simp [results, Tryz.results42, go_sem, c0, c1, c2, c3, c4, c5, l2]; exact ⟨rfl, rfl, rfl, rfl, rfl, rfl⟩) rfl ?_
    have hE := HS2.out.ext.putV (b := w.heap.size + 1 + 1) (by omega) 0 zeroV Sl.none Sl.none
    exact ⟨Sl.none, Sl.none, by rw [HGG.out]; rfl, hE.alloc _ _, by rw [HGG.out]; exact RV.flat _ _ _ _ _ _ rfl rfl (by decide)⟩
theorem get_nil (w : World) (k : ByteArray) : Calls Tryz.prog 42 #[.pointer none, .string k] w (GetPost none w) :=
  get_leaf (es := []) ⟨_, rfl⟩ (fun W _ => height_nil W) (fun W _ => (size_nil W).mono fun e w' ⟨h1, h2⟩ => ⟨h1, 0, h2.symm⟩) (fun W _ i e h => by simp at h) (fun W _ i _ => entry_nil W i) List.Pairwise.nil (by simp) k
theorem get_zero {w : World} {t : PT 0} (hn : IsN w (Lt w.heap.size) 0 t) (ok : OkT 0 t) (hs : Sorted (ents 0 t)) (k : ByteArray) : Calls Tryz.prog 42 #[ptr 0 t, .string k] w (GetPost (getE (ents 0 t) k) w) := by
  have ok8 : (ents 0 t).length ≤ 8 := ok
  exact get_leaf ⟨_, rfl⟩ (fun W hW => height_any (hn.ext hW)) (fun W hW => size_any (hn.ext hW) (Nat.le_trans ok8 (by decide))) (fun W hW i e h => entry_any (hn.ext hW) h) (fun W hW i h => entry_none (hn.ext hW) (.inr (Int.ofNat_le.2 h))) hs (Nat.le_trans ok8 (by decide)) k
theorem get_succ {h : Nat} {k : ByteArray}
    (ih : ∀ (w : World) (F : Nat → Prop) (t : PT h), (∀ b, F b → b < w.heap.size) → IsN w F h t → OkT h t → Sorted (ents h t) → (ents h t).length ≤ 1000000 → Calls Tryz.prog 42 #[ptr h t, .string k] w (GetPost (getE (ents h t) k) w))
    {w : World} {F : Nat → Prop} {t : PT (h + 1)} (hF : ∀ b, F b → b < w.heap.size) (hn : IsN w F (h + 1) t) (ok : OkT (h + 1) t) (hs : Sorted (ents (h + 1) t)) (hc : (ents (h + 1) t).length ≤ 1000000) :
    Calls Tryz.prog 42 #[ptr (h + 1) t, .string k] w (GetPost (getE (ents (h + 1) t) k) w) := by
  have hpos := kids_pos ok
  have hh : h + 1 < 1000000 := Nat.lt_of_lt_of_le (height_lt (h + 1) t ok (by have := ok.1; show 1 ≤ t.2.length; omega)) hc
  obtain ⟨kid, hkid, hA, hC⟩ := which_split (h := h) (ks := t.2) hs hpos (by have := ok.1; omega) k
  have hkm' := List.mem_of_getElem? hkid
  have hil := (List.getElem?_eq_some_iff.1 hkid).1
  have hlen8 := ok.2.1
  have hks : ∀ x ∈ t.2, IsN w F h x := hn.2.choose_spec.2.2
  have hkc : (ents h kid).length ≤ 1000000 := Nat.le_trans (by
    show _ ≤ (t.2.flatMap (ents h)).length
    rw [take_mid hkid]; simp only [List.flatMap_append, List.flatMap_cons, List.length_append]; omega) hc
  have hge : getE (ents (h + 1) t) k = getE (ents h kid) k := getE_kid hkid hA hC
  rw [hge]
  have hih : ∀ W, Ext w W → Calls Tryz.prog 42 #[ptr h kid, .string k] W (GetPost (getE (ents h kid) k) W) := fun W hW =>
    ih W F kid (fun b hb => Nat.lt_of_lt_of_le (hF b hb) hW.size) ((hks kid hkm').agree (hW.agree hF)) (ok.2.2 kid hkm').1 (kid_sorted hs kid hkm') hkc
  generalize getE (ents h kid) k = og at *
  clear hge
  have HF := Lib.hid hF
  have HN := Lib.hid hn
  have HS := Lib.hid hs
  have HP := Lib.hid hpos
  have HIH := Lib.hid hih
  have HKS := Lib.hid hks
  have HKID := Lib.hid hkid
  have hgt : (0 : Int) < (h : Int) + 1 := by omega
  clear hF hn ok hs hc hpos hih hks hkid hA hC ih hkc
  go_enter Tryz.func42, Tryz.ntmps42
  go_wp2_with fail
  generalize hW0 : World.alloc _ _ = W0
  obtain ⟨hx0, hz0, hb0, hb1, hb2⟩ := three_blocks w _ _ _ _ _ _ W0 hW0
  have hS0 : GetS w (ptr (h + 1) t) k W0 := ⟨hx0, hb0, hb1, hb2⟩
  have HS0 := Lib.hid hS0
  have q0 : W0.cell? ⟨w.heap.size, 0, none⟩ = some (ptr (h + 1) t) := hb0.cell 0
  clear hW0 hb0 hb1 hb2 hS0
  have hnW : IsN W0 F (h + 1) t := HN.out.agree (hx0.agree HF.out)
  refine (height_any hnW).mono ?_
  rintro e w1 ⟨rfl, rfl⟩
  have hkc := kids_any hnW (by omega)
  clear hnW
  go_wp2_with fail
  refine hkc.mono ?_
  rintro e w1 ⟨s', rfl, hown, hx1⟩
  have hS1 := HS0.out.step hx1
  have HS1 := Lib.hid hS1
  have hrd : Rd w1 (Lt w1.heap.size) 1 s' t.2.length (ptrs h t.2) := (Rd.of_own hown).mono fun i hi => hi.2
  obtain ⟨g, cap, rfl, hbg, hnc, hcm, hfil⟩ := own_block hown (by omega)
  obtain ⟨i, hi⟩ : ∃ i, whichK h t.2 k = i := ⟨_, rfl⟩
  have hwh : ∀ W, Ext w1 W → Calls Tryz.prog 71 #[.slice (some ⟨g, 0, none⟩) t.2.length cap, .string k] W fun e w' => e = .returned (.int .i64 i) ∧ Ext W w' := fun W hW => by
    rw [← hi]
    exact which_any (s := ⟨some ⟨g, 0, none⟩, cap⟩) ((hrd.agree (hW.agree fun _ h => h)).mono fun i hi => Nat.lt_of_lt_of_le hi hW.size) (fun x hx => (HKS.out x hx).agree ((hS1.ext.trans hW).agree HF.out)) (fun b hb => Nat.lt_of_lt_of_le (HF.out b hb) (hS1.ext.trans hW).size) HP.out k HS.out (by omega)
  have hkid := HKID.out
  rw [hi] at hkid hil
  obtain ⟨b, o, hba, hbl, -, -, hbc⟩ := hrd.ptr_at hkid
  obtain ⟨rfl, rfl⟩ : g = b ∧ 0 = o := by simpa using hba
  have kc : w1.cell? ⟨g, i, none⟩ = some (ptr h kid) := by simpa using hbc
  have k1 : w1.cell? ⟨w.heap.size + 1, 0, none⟩ = some (.string k) := hS1.b1.cell 0
  have hg1 : g < w1.heap.size := hbl
  have hgn : ¬ g = w.heap.size + 1 + 1 := by omega
  have hgn' : ¬ w.heap.size + 1 + 1 = g := by omega
  clear hz0
  have l1 : w.heap.size + 1 < w1.heap.size := hS1.b1.lt
  have hii : (i : Int) < (t.2.length : Int) := by omega
  have hi0 : (0 : Int) ≤ (i : Int) := by omega
  have HWH := Lib.hid hwh
  have HHI := Lib.hid hi
  clear hwh hi hkid hbc hba hfil hown hrd hx1 hx0 hS1 hkc q0
  go_wp2_with fail
  go_region_held3 (fun w' => w'.cell? ⟨g, i, none⟩ = some (ptr h kid) ∧ w'.cell? ⟨w.heap.size + 1, 0, none⟩ = some (.string k)) (first | (with_reducible exact ⟨g3, k3⟩) | (with_reducible exact ⟨g2, k2⟩) | go_keep)
    (first
      | (go_at_call 71; refine (HWH.out _ ?_).mono ?_; (exact ((Ext.refl _).drew)); rintro e w2 ⟨rfl, hx2⟩; have g2 := (hx2.cell (o := i) hg1).trans kc; have k2 := (hx2.cell (o := 0) l1).trans k1; have hg2 := Nat.lt_of_lt_of_le hg1 hx2.size; have l2 := Nat.lt_of_lt_of_le l1 hx2.size)
      | (go_at_call 42; refine (HIH.out _ ?_).mono ?_; (exact HS1.out.ext.trans (((Ext.refl _).drew).trans hx2)); rintro e w3 ⟨sl, so, rfl, hx3, hrv⟩; have g3 := (hx3.cell (o := i) hg2).trans g2; have k3 := (hx3.cell (o := 0) l2).trans k2; have hS3 := HS1.out.step ((((Ext.refl _).drew).trans hx2).trans hx3); obtain ⟨c0, c1, c2, c3, c4, c5⟩ := hS3.b2.c6; have f3 := hS3.b2.frozen; have HS3 := Lib.hid hS3; have HX3 := Lib.hid hx3; have HRV := Lib.hid hrv; have HX2 := Lib.hid hx2; clear hS3 hx3 hrv hx2))
  go_wp2_with fail
  refine bodyPost_ret (v := .tuple #[aggV (og.getD zeroV) sl so, .bool og.isSome]) (by simp [results, Tryz.results42, go_sem, c0, c1, c2, c3, c4, c5]) rfl ?_
  have hE := HS3.out.ext.putV (b := w.heap.size + 1 + 1) (by omega) 0 (og.getD zeroV) sl so
  have hb2 := HS1.out.b2.lt
  have hX2 := HX2.out.size
  have hX3 := HX3.out.size
  have hE1 := HS1.out.ext.size
  rw [World.size_drew] at hX2
  have hr2 : RV w3 (fun b => In w.heap.size w3.heap.size b ∧ b ≠ w.heap.size + 1 + 1) (og.getD zeroV) sl so := HRV.out.mono fun i hi => ⟨⟨by have := hi.1; omega, hi.2⟩, by have := hi.1; omega⟩
  have hr3 := hr2.agree (putV_agree w3 (w.heap.size + 1 + 1) 0 (og.getD zeroV) sl so (F := fun b => In w.heap.size w3.heap.size b ∧ b ≠ w.heap.size + 1 + 1) (fun h => h.2 rfl))
  exact ⟨sl, so, rfl, hE, hr3.mono fun i hi => ⟨hi.1.1, by have := hi.1.2; simpa using this⟩⟩
theorem get_any {k : ByteArray} : ∀ (h : Nat) (w : World) (F : Nat → Prop) (t : PT h), (∀ b, F b → b < w.heap.size) → IsN w F h t → OkT h t → Sorted (ents h t) → (ents h t).length ≤ 1000000 → Calls Tryz.prog 42 #[ptr h t, .string k] w (GetPost (getE (ents h t) k) w)
  | 0, w, F, t, hF, hn, ok, hs, _ => get_zero (hn.mono hF) ok hs k
  | h + 1, w, F, t, hF, hn, ok, hs, hc => get_succ (fun w F t a b c d e => get_any h w F t a b c d e) hF hn ok hs hc
theorem getPost_end {w w3 : World} {b lo : Nat} {og : Option Val} {sl so : Sl} (hE : Ext w w3) (hb : w.heap.size ≤ b) (hlt : b < lo) (hr : RV w3 (In lo w3.heap.size) (og.getD zeroV) sl so) :
    GetPost og w (.returned (.tuple #[aggV (og.getD zeroV) sl so, .bool og.isSome])) (putV w3 b 0 (og.getD zeroV) sl so) := by
  refine ⟨sl, so, rfl, hE.putV hb _ _ _ _, ?_⟩
  rw [putV_size]
  exact (hr.agree (putV_agree w3 b 0 (og.getD zeroV) sl so (by omega))).mono fun i hi => ⟨by omega, hi.2⟩
theorem two_blocks (w : World) (t0 t1 : TypeId) (c0 c1 : Array Value) : ∀ W, (w.alloc (.cells c0 t0)).alloc (.cells c1 t1) = W →
    Ext w W ∧ W.heap.size = w.heap.size + 2 ∧ Blk W w.heap.size t0 c0 ∧ Blk W (w.heap.size + 1) t1 c1 := by
  rintro W rfl
  refine ⟨((Ext.refl w).alloc _ _).alloc _ _, by simp, (Blk.new w t0 c0).alloc _, ?_⟩
  have h := Blk.new (w.alloc (.cells c0 t0)) t1 c1
  rw [World.size_alloc] at h; exact h
theorem getR_any {w : World} {F : Nat → Prop} {T : RT} (hF : ∀ b, F b → b < w.heap.size) (hT : IsT w F T) (ok : OkR T) (hc : (entsT T).length ≤ 1000000) (k : ByteArray) :
    Calls Tryz.prog 42 #[rootV T, .string k] w (GetPost (getE (entsT T) k) w) := by
  match T, hT, ok, hc with
  | none, _, _, _ => exact get_nil w k
  | some ⟨h, t⟩, hT, ok, hc => exact get_any h w F t hF hT ok.1 ok.2.2 hc
theorem treeGet_any {w : World} {F : Nat → Prop} {T : RT} (hF : ∀ b, F b → b < w.heap.size) (hT : IsT w F T) (ok : OkR T) (hc : (entsT T).length ≤ 1000000) (k : ByteArray) :
    Calls Tryz.prog 13 #[treeV T, .string k] w (GetPost (getE (entsT T) k) w) := by
  have hcw : ∀ W, Ext w W → Calls Tryz.prog 42 #[rootV T, .string k] W (GetPost (getE (entsT T) k) W) := fun W hW =>
    getR_any (fun b hb => Nat.lt_of_lt_of_le (hF b hb) hW.size) (hT.agree (hW.agree hF)) ok hc k
  generalize getE (entsT T) k = og at *
  have HW := Lib.hid hcw
  clear hF hT ok hcw
  go_enter Tryz.func13, Tryz.ntmps13
  go_wp2_with fail
  generalize hW0 : World.alloc _ _ = W0
  obtain ⟨hx0, hz0, -, hb1⟩ := two_blocks w _ _ _ _ W0 hW0
  have HZ := Lib.hid hz0
  have HX0 := Lib.hid hx0
  clear hW0 hz0
  refine (HW.out W0 hx0).mono ?_
  rintro e w1 ⟨sl, so, rfl, hx1, hrv⟩
  have hb := hb1.ext hx1
  obtain ⟨c0, c1, c2, c3, c4, c5⟩ := hb.c6
  have f2 := hb.frozen
  have HX1 := Lib.hid hx1
  have HRV := Lib.hid hrv
  clear hb hb1 hx1 hrv hx0
  go_wp2_with fail
  refine bodyPost_ret (v := .tuple #[aggV (og.getD zeroV) sl so, .bool og.isSome]) (by simp [results, Tryz.results13, go_sem, c0, c1, c2, c3, c4, c5]) rfl ?_
  exact getPost_end (HX0.out.trans HX1.out) (b := w.heap.size + 1) (lo := W0.heap.size) (by omega) (by rw [HZ.out]; omega) HRV.out
def GatherPost (base : Nat) (s : Sl) (xs : List LE) (es : List Ent) (w : World) (e : Ending) (w' : World) : Prop :=
  ∃ (s' : Sl) (ys : List LE), e = .returned (.slice s'.a (xs.length + ys.length) s'.c) ∧ OE w' base s' (xs ++ ys) ∧ ys.map LE.ent = es ∧ Wr w w' s.row ∧ (s'.row = s.row ∨ ∃ b, s'.row = some b ∧ w.heap.size ≤ b)
theorem OE.append {w w' : World} {base : Nat} {s s' : Sl} {xs ys : List LE} {F : Nat → Prop} (ho : OE w base s xs) (hv : Vals w F ys) (hF : ∀ b, F b → base ≤ b ∧ b < w.heap.size ∧ s.row ≠ some b) (hf : (xs.length + ys.length) * 104 ≤ 140737488355328)
    (hown : w'.ownsRow base 64 7 (.slice s'.a (xs.length + ys.length) s'.c) (xs.length + ys.length) (flatE xs ++ flatE ys)) (hwr : Wr w w' s.row) (hs' : s'.row = s.row ∨ ∃ b, s'.row = some b ∧ w.heap.size ≤ b) : OE w' base s' (xs ++ ys) := by
  have hnew : ∀ b, b < w.heap.size → s.row ≠ some b → s'.row ≠ some b := fun b hb hn he => by
    rcases hs' with h | ⟨g, h, hg⟩
    · exact hn (h ▸ he)
    · rw [h] at he; simp at he; omega
  have hag : Agree (fun b => (base ≤ b ∧ b < w.heap.size) ∧ s.row ≠ some b) w w' := hwr.agree (fun i hi => hi.1.2) (fun k hk h => h.2 hk)
  refine ⟨by rw [List.length_append, flatE_app]; exact hown, fun x hx => ?_, by rw [List.length_append]; exact hf⟩
  have hup : ∀ i, ((base ≤ i ∧ i < w.heap.size) ∧ s.row ≠ some i) → (base ≤ i ∧ i < w'.heap.size) ∧ s'.row ≠ some i := fun i hi => ⟨⟨hi.1.1, Nat.lt_of_lt_of_le hi.1.2 hwr.grown.size⟩, hnew i hi.1.2 hi.2⟩
  rcases List.mem_append.1 hx with hx | hx
  · exact ⟨((ho.vals x hx).1.agree hag).mono hup, (ho.vals x hx).2⟩
  · exact ⟨(((hv x hx).1.mono fun i hi => ⟨⟨(hF i hi).1, (hF i hi).2.1⟩, (hF i hi).2.2⟩).agree hag).mono hup, (hv x hx).2⟩
theorem EntriesPost.base {es : List Ent} {w : World} {e : Ending} {w' : World} (h : EntriesPost es w e w') : ∃ (s : Sl) (ys : List LE), e = .returned (.slice s.a ys.length s.c) ∧ ys.map LE.ent = es ∧ OE w' w.heap.size s ys ∧ Ext w w' := h
theorem ext_wr {w w' : World} (h : Ext w w') (r : Option Nat) : Wr w w' r := ⟨⟨h.below.os, h.below.tape, h.below.output, h.size, fun k hk _ => h.heap hk⟩, h.fz⟩
theorem gather_zero {w : World} {nv : Value} {es : List Ent} {base : Nat} {s : Sl} {xs : List LE} (he : Calls Tryz.prog 88 #[nv] w (EntriesPost es w)) (hk : ∀ W, Wr w W s.row → Calls Tryz.prog 70 #[nv] W fun e w' => e = .returned (.slice none 0 0) ∧ W = w')
    (hb : base ≤ w.heap.size) (ho : OE w base s xs) (hl : xs.length + es.length ≤ 1000000) : Calls Tryz.prog 55 #[.slice s.a xs.length s.c, nv] w (GatherPost base s xs es w) := by
  obtain ⟨i0, hi, hz0, hz1, hz2⟩ := info_parts Tryz.infoEntry
  have HK := Lib.hid hk
  have HO := Lib.hid ho
  clear hk ho
  go_enter Tryz.func55, Tryz.ntmps55
  go_wp2_with fail
  refine he.mono ?_
  intro e w1 hp
  obtain ⟨sy, ys, rfl, hys, hoy, hx1⟩ := hp.base
  have hyl : ys.length = es.length := by rw [← hys, List.length_map]
  have ho1 := HO.out.ext hx1
  have HO1 := Lib.hid ho1
  have HX1 := Lib.hid hx1
  have HOY := Lib.hid hoy
  have HYS := Lib.hid hys
  have h63 : xs.length + ys.length ≤ maxLen := by unfold maxLen; omega
  have hb1 : base ≤ w1.heap.size := Nat.le_trans hb hx1.size
  have hby : (xs.length + ys.length) * 104 ≤ 140737488355328 := by omega
  clear hp hys hoy hx1 ho1 hyl
  go_wp2_with (at_builtin; refine wpList_append_x _ rfl (.tmp 7) (.tmp 9) 48 rfl base 64 i0 _ 7 104 Tryz.underlying48 hi hz0 hz1 hz2 rfl (by decide) s xs.length (flatE xs) rfl HO1.out.own (In w.heap.size w1.heap.size) sy ys.length (flatE ys) rfl HOY.out.es.rd (flatE_one ys) h63 hby hb1 ?_; intro s' w2 hown hwr hs')
  have hs2 : s'.row = s.row ∨ ∃ b, s'.row = some b ∧ w1.heap.size ≤ b := by
    rcases hs' with h | ⟨h, -⟩
    · exact .inl (by simp [Sl.row, h])
    · exact .inr ⟨w1.heap.size, by simp [Sl.row, h], Nat.le_refl _⟩
  have hrow : ∀ b, s.row = some b → b < w.heap.size := fun b hb => (own_row HO.out.own hb).2
  have ho2 := OE.append HO1.out HOY.out.es.vals (fun b hb => ⟨Nat.le_trans ‹base ≤ w.heap.size› hb.1, hb.2, fun e => by have := hrow b e; omega⟩) hby hown hwr hs2
  have HO2 := Lib.hid ho2
  have HW := Lib.hid ((ext_wr HX1.out s.row).trans hwr (fun i hi => .inl hi))
  have HS2 := Lib.hid hs2
  have hx1s := HX1.out.size
  clear ho2 hown hwr hs' hs2 hrow
  refine (HK.out w2 HW.out).mono ?_
  rintro e w3 ⟨rfl, rfl⟩
  go_wp2_with fail
  go_loopw [0, 14] (fun v i wr => v = .slice s'.a (xs.length + ys.length) s'.c ∧ i = .int .i64 0 ∧ wr = w2) (fun _ _ _ => 0)
  case atStart => exact ⟨rfl, rfl, rfl⟩
  case round =>
    obtain ⟨rfl, rfl, rfl⟩ := hrel
    go_wp2_with fail
    go_ret
    exact ⟨s', ys, rfl, HO2.out, HYS.out, HW.out, HS2.out.imp_right fun ⟨b, h1, h2⟩ => ⟨b, h1, Nat.le_trans hx1s h2⟩⟩
structure GathS (base : Nat) (s : Sl) (xs : List LE) (w wr : World) (s' : Sl) (ys : List LE) : Prop where
  own : OE wr base s' (xs ++ ys)
  wr : Wr w wr s.row
  row : s'.row = s.row ∨ ∃ b, s'.row = some b ∧ w.heap.size ≤ b
theorem gather_succ {h : Nat} (ih : ∀ (t : PT h) (w : World) (F : Nat → Prop) (base : Nat) (s : Sl) (xs : List LE), IsN w F h t → (∀ b, F b → b < w.heap.size ∧ s.row ≠ some b) → base ≤ w.heap.size → OE w base s xs → OkT h t → xs.length + (ents h t).length ≤ 1000000 → Calls Tryz.prog 55 #[.slice s.a xs.length s.c, ptr h t] w (GatherPost base s xs (ents h t) w))
    {t : PT (h + 1)} {w : World} {F : Nat → Prop} {base : Nat} {s : Sl} {xs : List LE} (hn : IsN w F (h + 1) t) (hF : ∀ b, F b → b < w.heap.size ∧ s.row ≠ some b) (hb : base ≤ w.heap.size) (ho : OE w base s xs) (ok : OkT (h + 1) t) (hl : xs.length + (ents (h + 1) t).length ≤ 1000000) :
    Calls Tryz.prog 55 #[.slice s.a xs.length s.c, ptr (h + 1) t] w (GatherPost base s xs (ents (h + 1) t) w) := by
  obtain ⟨i0, hi, hz0, hz1, hz2⟩ := info_parts Tryz.infoEntry
  have hlen8 := ok.2.1
  have hlen2 := ok.1
  have hc := kids_any hn (by omega)
  have hks : ∀ x ∈ t.2, IsN w F h x := hn.2.choose_spec.2.2
  have he := entries_inner hn
  have HIH := Lib.hid ih
  have HO := Lib.hid ho
  have HF := Lib.hid hF
  have HKS := Lib.hid hks
  have HOK := Lib.hid ok
  have HL := Lib.hid hl
  have h63 : xs.length + 0 ≤ maxLen := by unfold maxLen; omega
  have hby : (xs.length + 0) * 104 ≤ 140737488355328 := by omega
  have hn0 := Lib.hid hn
  clear ih ho hF hks ok hl hn hc
  go_enter Tryz.func55, Tryz.ntmps55
  go_wp2_with fail
  refine he.mono ?_
  rintro e w1 ⟨rfl, rfl⟩
  go_wp2_with (at_builtin; refine wpList_append_x _ rfl (.tmp 7) (.tmp 9) 48 rfl base 64 i0 _ 7 104 Tryz.underlying48 hi hz0 hz1 hz2 rfl (by decide) s xs.length (flatE xs) rfl HO.out.own (fun _ => True) Sl.none 0 [] rfl (Rd.nil _ _ _) (by simp) h63 hby hb ?_; intro s' w2 hown hwr hs')
  have hs2 : s'.row = s.row ∨ ∃ b, s'.row = some b ∧ w.heap.size ≤ b := by
    rcases hs' with h | ⟨h, -⟩
    · exact .inl (by simp [Sl.row, h])
    · exact .inr ⟨w.heap.size, by simp [Sl.row, h], Nat.le_refl _⟩
  have ho2 : OE w2 base s' (xs ++ []) := OE.append (F := fun _ => False) HO.out (fun x hx => by simp at hx) (fun b hb => hb.elim) hby (by simpa [flatE_nil] using hown) hwr hs2
  rw [List.append_nil] at ho2
  have hrow2 : ∀ b, s'.row = some b → b < w2.heap.size := fun b hb => (own_row ho2.own hb).2
  have hnW : IsN w2 F (h + 1) t := hn0.out.agree (hwr.agree (fun i hi => (HF.out i hi).1) (fun k hk h => (HF.out k h).2 hk))
  have hkc := kids_any hnW (by omega)
  have HG0 := Lib.hid (show GathS base s xs w w2 s' [] from ⟨by rw [List.append_nil]; exact ho2, hwr, hs2⟩)
  clear hs' hown ho2 hwr hs2 hnW
  refine hkc.mono ?_
  rintro e w3 ⟨sk, rfl, hown, hx3⟩
  obtain ⟨g, cap, rfl, hbg, hnc, hcm, hfil⟩ := own_block hown (by omega)
  have hrd : Rd w3 (fun b => b = g) 1 ⟨some ⟨g, 0, none⟩, cap⟩ t.2.length (ptrs h t.2) := by
    obtain ⟨b, o, h1, h2, h3⟩ := Rd.of_own hown
    obtain ⟨e1, hnc, hcm⟩ := h1.eq (by omega)
    obtain ⟨rfl, rfl⟩ : g = b ∧ 0 = o := by simpa using e1
    exact ⟨g, 0, .some _ _ _ _ hnc hcm rfl, h2, h3⟩
  have hgr : s'.row ≠ some g := fun e => by have := hrow2 g e; omega
  have hgl : g < w3.heap.size := hfil.lt
  have HG3 := Lib.hid (show GathS base s xs w w3 s' [] from ⟨HG0.out.own.ext hx3, HG0.out.wr.trans (ext_wr hx3 none) (fun i hi => by cases hi), HG0.out.row⟩)
  have HRD := Lib.hid hrd
  clear hfil hown hx3 hrd hkc hrow2 HG0
  go_wp2_with fail
  go_loopw [0, 14] (fun v i wr => ∃ (j : Nat) (s'' : Sl) (ys : List LE), j ≤ t.2.length ∧ i = .int .i64 j ∧ v = .slice s''.a (xs.length + ys.length) s''.c ∧ ys.map LE.ent = (t.2.take j).flatMap (ents h) ∧ GathS base s xs w wr s'' ys ∧ Rd wr (fun b => b = g) 1 ⟨some ⟨g, 0, none⟩, cap⟩ t.2.length (ptrs h t.2) ∧ s''.row ≠ some g ∧ g < wr.heap.size)
    (fun _ i _ => t.2.length - (intOf i).toNat)
  case atStart => exact ⟨0, s', [], Nat.zero_le _, rfl, rfl, rfl, HG3.out, HRD.out, hgr, hgl⟩
  case round =>
    obtain ⟨j, s'', ys, hj, rfl, rfl, hys, hG, hrd, hgr', hgl'⟩ := hrel
    have HYS := Lib.hid hys
    have HG := Lib.hid hG
    have HR := Lib.hid hrd
    by_cases hlt : j < t.2.length
    · obtain ⟨kid, hkid⟩ : ∃ kid, t.2[j]? = some kid := ⟨_, List.getElem?_eq_getElem hlt⟩
      obtain ⟨b, o, hba, -, -, -, hbc⟩ := hrd.ptr_at hkid
      obtain ⟨rfl, rfl⟩ : g = b ∧ 0 = o := by simpa using hba
      have kc : wr.cell? ⟨g, j, none⟩ = some (ptr h kid) := by simpa using hbc
      have hjl : (j : Int) < (t.2.length : Int) := by omega
      have hkm := List.mem_of_getElem? hkid
      have hlen : ys.length + (ents h kid).length ≤ (ents (h + 1) t).length := by
        have e1 : ys.length = ((t.2.take j).flatMap (ents h)).length := by rw [← hys, List.length_map]
        show _ ≤ (t.2.flatMap (ents h)).length
        rw [e1]
        conv => rhs; rw [take_mid hkid]
        simp only [List.flatMap_append, List.flatMap_cons, List.length_append]; omega
      have hic := HIH.out kid wr F base s'' (xs ++ ys) ((HKS.out kid hkm).agree (hG.wr.agree (fun i hi => (HF.out i hi).1) (fun k hk h => (HF.out k h).2 hk)))
        (fun b hb => ⟨Nat.lt_of_lt_of_le (HF.out b hb).1 hG.wr.grown.size, fun e => by
          rcases hG.row with h | ⟨b', h, hb'⟩
          · exact (HF.out b hb).2 (h ▸ e)
          · rw [h] at e; simp at e; have := (HF.out b hb).1; omega⟩)
        (Nat.le_trans hb hG.wr.grown.size) hG.own (HOK.out.2.2 kid hkm).1 (by have := HL.out; rw [List.length_append]; omega)
      rw [List.length_append] at hic
      have HK := Lib.hid hkid
      clear hys hG hrd hkid hba hbc hkm hlen
      go_wp2_with fail
      refine hic.mono ?_
      rintro e w4 ⟨s4, zs, rfl, ho4, hz4, hw4, hr4⟩
      have HZ := Lib.hid hz4
      have hg4 : s4.row ≠ some g := fun e => by
        rcases hr4 with h | ⟨b', h, hb'⟩
        · exact hgr' (h ▸ e)
        · rw [h] at e; simp at e; omega
      have hG4 : GathS base s xs w w4 s4 (ys ++ zs) := by
        refine ⟨by rw [← List.append_assoc]; exact ho4, HG.out.wr.trans hw4 (fun i hi => ?_), ?_⟩
        · rcases HG.out.row with h | ⟨b', h, hb'⟩
          · exact .inl (h ▸ hi)
          · rw [h] at hi; simp at hi; exact .inr (by omega)
        · rcases hr4 with h | ⟨b', h, hb'⟩
          · rw [h]; exact HG.out.row
          · exact .inr ⟨b', h, Nat.le_trans HG.out.wr.grown.size hb'⟩
      have hR4 := HR.out.agree (hw4.agree (F := fun b => b = g) (fun i hi => by omega) (fun k hk e => hgr' (e ▸ hk)))
      have hgl4 : g < w4.heap.size := Nat.lt_of_lt_of_le hgl' hw4.grown.size
      have HG4 := Lib.hid hG4
      have HR4 := Lib.hid hR4
      have hw1 : (xs ++ ys).length + zs.length = xs.length + (ys ++ zs).length := by simp [Nat.add_assoc]
      have HW1 := Lib.hid hw1
      clear hz4 ho4 hw4 hr4 hG4 hR4 hw1 hic
      go_wp2_with fail
      go_roundw
      case rel => exact ⟨j + 1, s4, ys ++ zs, hlt, by go_num, by rw [← HW1.out]; simp, by rw [List.map_append, HYS.out, HZ.out, List.take_add_one, HK.out]; simp, HG4.out, HR4.out, hg4, hgl4⟩
      case measure => simp [intOf]; omega
    · obtain rfl : j = t.2.length := by omega
      clear hys hG hrd
      go_wp2_with fail
      go_ret
      exact ⟨s'', ys, rfl, HG.out.own, by rw [HYS.out, List.take_length]; rfl, HG.out.wr, HG.out.row⟩
theorem gather_any : ∀ (h : Nat) (t : PT h) (w : World) (F : Nat → Prop) (base : Nat) (s : Sl) (xs : List LE), IsN w F h t → (∀ b, F b → b < w.heap.size ∧ s.row ≠ some b) → base ≤ w.heap.size → OE w base s xs → OkT h t → xs.length + (ents h t).length ≤ 1000000 → Calls Tryz.prog 55 #[.slice s.a xs.length s.c, ptr h t] w (GatherPost base s xs (ents h t) w)
  | 0, t, w, F, base, s, xs, hn, hF, hb, ho, _, hl =>
    gather_zero (entries_any (hn.mono fun b hb => (hF b hb).1)) (fun W hW => kids_leaf (hn.agree (hW.agree (fun i hi => (hF i hi).1) (fun k hk h => (hF k h).2 hk)))) hb ho hl
  | h + 1, t, w, F, base, s, xs, hn, hF, hb, ho, ok, hl => gather_succ (gather_any h) hn hF hb ho ok hl
theorem kids_nil (w : World) : Calls Tryz.prog 70 #[.pointer none] w fun e w' => e = .returned (.slice none 0 0) ∧ w = w' := by
  go_enter Tryz.func70, Tryz.ntmps70
  go_wp2_with fail
  go_ret
  exact ⟨rfl, rfl⟩
theorem gatherR_any {T : RT} {w : World} {F : Nat → Prop} {base : Nat} {s : Sl} {xs : List LE} (hT : IsT w F T) (hF : ∀ b, F b → b < w.heap.size ∧ s.row ≠ some b) (hb : base ≤ w.heap.size) (ho : OE w base s xs) (ok : OkR T) (hl : xs.length + (entsT T).length ≤ 1000000) :
    Calls Tryz.prog 55 #[.slice s.a xs.length s.c, rootV T] w (GatherPost base s xs (entsT T) w) := by
  match T, hT, ok, hl with
  | none, _, _, hl => exact gather_zero ((entries_nil w).mono fun e w' ⟨h1, h2⟩ => ⟨Sl.none, [], h1, rfl, OE.nil _ _, h2 ▸ Ext.refl w⟩) (fun W _ => kids_nil W) hb ho hl
  | some ⟨h, t⟩, hT, ok, hl => exact gather_any h t w F base s xs hT hF hb ho ok.1 hl
theorem countR_any {w : World} {F : Nat → Prop} {T : RT} (hT : IsT w F T) : Calls Tryz.prog 46 #[rootV T] w fun e w' => e = .returned (.int .i64 (entsT T).length) ∧ w = w' := by
  match T, hT with
  | none, _ => exact count_nil w
  | some ⟨h, t⟩, hT => exact count_any hT
theorem treeLen_any {w : World} {F : Nat → Prop} {T : RT} (hF : ∀ b, F b → b < w.heap.size) (hT : IsT w F T) : Calls Tryz.prog 19 #[treeV T] w fun e w' => e = .returned (.int .i64 (entsT T).length) ∧ Ext w w' := by
  have hx : Ext w (w.alloc (.cells #[rootV T] 25)) := (Ext.refl w).alloc _ _
  have hc := countR_any (hT.agree (hx.agree hF))
  clear hF hT
  go_enter Tryz.func19, Tryz.ntmps19
  go_wp2_with fail
  refine hc.mono ?_
  rintro e w' ⟨rfl, rfl⟩
  go_wp2_with fail
  go_ret
  exact ⟨rfl, hx⟩
theorem treeRoot_any (w : World) (v : Value) : Calls Tryz.prog 122 #[.agg #[v]] w fun e w' => e = .returned v ∧ Ext w w' := by
  go_enter Tryz.func122, Tryz.ntmps122
  go_wp2_with fail
  go_ret
  exact ⟨rfl, (Ext.refl w).alloc _ _⟩
theorem treeEntries_any {w : World} {F : Nat → Prop} {T : RT} (hF : ∀ b, F b → b < w.heap.size) (hT : IsT w F T) (ok : OkR T) (hl : (entsT T).length ≤ 1000000) : Calls Tryz.prog 30 #[treeV T] w (EntriesPost (entsT T) w) := by
  obtain ⟨i0, hi, hz0, hz1, hz2⟩ := info_parts Tryz.infoEntry
  have hln : ∀ W, Ext w W → Calls Tryz.prog 19 #[treeV T] W fun e w' => e = .returned (.int .i64 (entsT T).length) ∧ Ext W w' := fun W hW =>
    treeLen_any (fun b hb => Nat.lt_of_lt_of_le (hF b hb) hW.size) (hT.agree (hW.agree hF))
  have hga : ∀ (W : World) (s : Sl), Ext w W → OE W w.heap.size s [] → Calls Tryz.prog 55 #[.slice s.a 0 s.c, rootV T] W (GatherPost w.heap.size s [] (entsT T) W) := fun W s hW ho =>
    gatherR_any (xs := []) (hT.agree (hW.agree hF)) (fun b hb => ⟨Nat.lt_of_lt_of_le (hF b hb) hW.size, fun e => by have := (own_row ho.own e).1; have := hF b hb; omega⟩) hW.size ho ok (by simpa using hl)
  generalize entsT T = es at *
  obtain ⟨MC, hms, hmk⟩ : ∃ MC : Array Value, MC.size = es.length * 7 ∧ ∀ W, (Instr.makeSlice 48 (.int .i64 0) (.int .i64 (es.length : Int))).run Tryz.prog W = .ok (.slice (some ⟨W.heap.size, 0, none⟩) 0 es.length) (W.alloc (.cells MC 64)) := by
    refine ⟨madeCells (Value.cells (.agg #[.string ByteArray.empty, .int .i64 0, .bool false, .int .i64 0, .string ByteArray.empty, .slice none 0 0, .slice none 0 0])) (es.length * 7), size_madeCells _ _, fun W => ?_⟩
    have h := run_make_rowN (P := Tryz.prog) 48 64 i0 _ Tryz.underlying48 hi hz0 .i64 .i64 0 es.length (Nat.zero_le _) (by rw [hz2]; omega) (by omega) W
    rw [hz1] at h
    exact h
  have HMS := Lib.hid hms
  have HLN := Lib.hid hln
  have HGA := Lib.hid hga
  clear hF hT ok hln hga hi hz0 hz1 hz2 hms
  go_enter Tryz.func30, Tryz.ntmps30
  go_wp2_with fail
  have hx0 : Ext w (w.alloc (.cells #[rootV T] 25)) := (Ext.refl w).alloc _ _
  have hb0 := Blk.new w 25 #[rootV T]
  generalize hW0 : World.alloc _ _ = W0 at *
  have r0 : W0.cell? ⟨w.heap.size, 0, none⟩ = some (rootV T) := hb0.cell 0
  have l0 := hb0.lt
  clear hW0
  go_region_held3 (fun w' => w'.cell? ⟨w.heap.size, 0, none⟩ = some (rootV T)) (first | (with_reducible exact r1) | (with_reducible exact r3) | go_keep)
    (first
      | (go_at_call 19; refine (HLN.out _ ?_).mono ?_; (exact hx0.drew); rintro e w1 ⟨rfl, hx1⟩; have r1 := (hx1.cell (o := 0) l0).trans r0; have l1 := Nat.lt_of_lt_of_le l0 hx1.size)
      | (go_at_call 55; refine (HGA.out _ ⟨some ⟨w1.heap.size, 0, none⟩, es.length⟩ ?_ ?_).mono ?_; (exact ((hx0.drew).trans hx1).alloc _ _); (exact ⟨World.ownsRow_made w1 MC es.length ((hx0.drew).trans hx1).size (by unfold maxLen; omega) HMS.out, fun x hx => by simp at hx, by simp⟩); rintro e w3 ⟨s3, ys, rfl, ho3, hy3, hw3, hr3⟩; have r3 : w3.cell? ⟨w.heap.size, 0, none⟩ = some (rootV T) := (World.cell?_of_block (w := w1.alloc (.cells MC 64)) (a := ⟨w.heap.size, 0, none⟩) (hw3.grown.block w.heap.size (by rw [World.size_alloc]; omega) (fun e => by simp [Sl.row] at e; omega))).trans ((World.cell?_alloc_lt _ _ _ l1).trans r1))
      )
  go_wp2_with fail
  go_ret
  have hX := ((hx0.drew).trans hx1).alloc MC 64
  exact ⟨s3, ys, rfl, hy3, by simpa using ho3, hX.wr hw3 (fun i hi => by simp [Sl.row] at hi; have := ((hx0.drew).trans hx1).size; omega)⟩
section
variable {P : Program} (w : World)
theorem step_append_x {ops : Array Oper} {o : Oper} {a : Act} {K : Act → World → Prop} {Q : Exit → Act → World → Prop} {E : Prop} (hgd : o.guard = none) (s' x : Operand) (t : TypeId)
    (ho : o.op = .call { callee := .builtin .append, args := #[s', x], argTypes := #[t, t] })
    (base : Nat) (e : TypeId) (i : TypeInfo) (z : Value) (size bytes : Nat) (ht : P.underlying t = some (.slice e)) (hi : P.info? e = some i) (hz : i.zero = some z)
    (hsize : i.size = size) (hby : i.bytes = bytes) (hzs : z.cells.size = size) (hsz : 0 < size)
    (s : Sl) (n : Nat) (xs : List Value) (hs : a.eval s' = .slice s.a n s.c) (hown : w.ownsRow base e size (.slice s.a n s.c) n xs)
    (F : Nat → Prop) (sx : Sl) (m : Nat) (news : List Value) (hx : a.eval x = .slice sx.a m sx.c) (hsrc : Rd w F size sx m news) (h1 : ∀ u ∈ news, u.oneCell' = true)
    (h63 : n + m ≤ maxLen) (hbytes : (n + m) * bytes ≤ 140737488355328) (hbase : base ≤ w.heap.size)
    (h : ∀ (s' : Sl) (w' : World), w'.ownsRow base e size (.slice s'.a (n + m) s'.c) (n + m) (xs ++ news) → Wr w w' s.row → (s'.a = s.a ∨ s'.a = some ⟨w.heap.size, 0, none⟩ ∧ Wr w w' none) → K (a.put o.dst (.slice s'.a (n + m) s'.c)) w') :
    if Region.wanted o (yielded ops a.tmps) = true then Oper.wp P o a w K Q else E := by
  have hw : Region.wanted o (yielded ops a.tmps) = true := by simp [Region.wanted, hgd]
  rw [if_pos hw]
  exact wp_append_x w s' x t ho base e i z size bytes ht hi hz hsize hby hzs hsz s n xs hs hown F sx m news hx hsrc h1 h63 hbytes hbase h
theorem Rd.block {w : World} {g : Nat} {t : TypeId} {cs : List Value} {size n : Nat} (hb : Blk w g t cs.toArray) (hm : n ≤ maxLen) (hl : cs.length = n * size) : Rd w (fun b => b = g) size ⟨some ⟨g, 0, none⟩, n⟩ n cs :=
  ⟨g, 0, .some _ _ _ _ (Nat.le_refl _) hm rfl, hl, fun j u hj => by rw [Nat.zero_add, hb.cell]; simpa using hj⟩
end
def BuildPost (es : List Ent) (w : World) (e : Ending) (w' : World) : Prop :=
  ∃ T, e = .returned (treeV T) ∧ BuiltR es T ∧ IsT w' (In w.heap.size w'.heap.size) T ∧ Ext w w'
theorem rootV_ptr (T : RT) : ∃ p, rootV T = .pointer p := by
  match T with
  | none => exact ⟨_, rfl⟩
  | some ⟨h, t⟩ => exact ⟨_, rfl⟩
theorem ES.ext {w w' : World} {s : Sl} {xs : List LE} (h : ES w (Lt w.heap.size) s xs) (he : Ext w w') : ES w' (Lt w'.heap.size) s xs := (h.agree (he.agree fun _ h => h)).mono fun _ hi => Nat.lt_of_lt_of_le hi he.size
theorem build_big {w : World} {s : Sl} {xs : List LE} (hs : ES w (Lt w.heap.size) s xs) (hl : xs.length ≤ 500000) : Calls Tryz.prog 24 #[.slice s.a xs.length s.c] w (BuildPost (xs.map LE.ent) w) := by
  have HS := Lib.hid hs
  clear hs
  go_enter Tryz.func24, Tryz.ntmps24
  go_wp2_with fail
  generalize hW0 : World.alloc (World.alloc _ _) _ = W0
  obtain ⟨hxx, hzz, hb0, hb1⟩ := two_blocks w _ _ _ _ W0 hW0
  clear hW0
  go_loopw [8] (fun i wr => ∃ (j : Nat) (T : RT) (p : Option Addr), j ≤ xs.length ∧ i = .int .i64 j ∧ Ext w wr ∧ Blk wr w.heap.size 25 #[.pointer none] ∧ Blk wr (w.heap.size + 1) 25 #[.pointer p] ∧ Hid (rootV T = .pointer p) ∧ BuiltR ((xs.take j).map LE.ent) T ∧ IsT wr (In (w.heap.size + 2) wr.heap.size) T)
    (fun i _ => xs.length - (intOf i).toNat)
  case atStart => exact ⟨0, none, none, Nat.zero_le _, rfl, hxx, hb0, hb1, Lib.hid rfl, .nil, trivial⟩
  case round =>
    obtain ⟨j, T, p, hj, rfl, hx, hR, hS, HP, hB, hT⟩ := hrel
    clear hxx hzz hb0 hb1
    have HX := Lib.hid hx
    have HR := Lib.hid hR
    have HB := Lib.hid hB
    have HT := Lib.hid hT
    have HSS := Lib.hid hS
    have c0 : wr.cell? ⟨w.heap.size + 1, 0, none⟩ = some (.pointer p) := hS.cell 0
    have fS := hS.frozen
    have lS := hS.lt
    by_cases hlt : j < xs.length
    · obtain ⟨x, hxj⟩ : ∃ x, xs[j]? = some x := ⟨_, List.getElem?_eq_getElem hlt⟩
      obtain ⟨b, o, ha, hbl, hlc, hcm, k0, hv, hrv, hkm⟩ := (HS.out.ext hx).at hxj
      obtain ⟨v0, v1, v2, v3, v4, v5⟩ := hv.m
      have hil' : (j : Int) < (xs.length : Int) := by omega
      have hok := hB.both
      have hpt : ∀ W, Ext wr W → Calls Tryz.prog 40 #[.agg #[.pointer p], .string x.k, aggV x.v x.sl x.so] W (PutPost (In (w.heap.size + 2) wr.heap.size) T x.k x.v W) := fun W hW => by
        rw [← HP.out]
        exact put_any (fun b hb => Nat.lt_of_lt_of_le hb.2 hW.size) (hT.agree (hW.agree fun b hb => hb.2)) hok.1 (by
          rw [hok.2]
          have := putAll_len ((xs.take j).map LE.ent) []
          simp only [List.length_map, List.length_take, List.length_nil] at this
          omega) hkm ((hrv.agree (hW.agree fun b hb => hb)).mono fun b hb => Nat.lt_of_lt_of_le hb hW.size)
      obtain ⟨sa, sc⟩ := s
      dsimp only at ha
      subst ha
      have HPT := Lib.hid hpt
      have HXJ := Lib.hid hxj
      clear hx hR hS hB hT hxj hv hrv hok hpt
      go_wp2_with fail
      refine (HPT.out _ ((Ext.refl wr).alloc _ _)).mono ?_
      rintro e w2 ⟨T2, rfl, hp2, hT2, hx2⟩
      obtain ⟨p2, hq2⟩ := rootV_ptr T2
      have HQ2 := Lib.hid hq2
      dsimp only [treeV]
      rw [hq2]
      clear hq2
      have hX2 : Ext wr w2 := ((Ext.refl wr).alloc _ _).trans hx2
      have d0 : w2.cell? ⟨w.heap.size + 1, 0, none⟩ = some (.pointer p) := (hX2.cell lS).trans c0
      have f2 : ∀ o, w2.frozen? ⟨w.heap.size + 1, o, none⟩ = false := fun o => (hX2.frozen lS).trans (fS o)
      have hE := (HX.out.trans hX2).setCell (p := ⟨w.heap.size + 1, 0, none⟩) (show w.heap.size ≤ w.heap.size + 1 by omega) (.pointer p2)
      have hR2 := (HR.out.ext hX2).far (p := ⟨w.heap.size + 1, 0, none⟩) (by simp) (.pointer p2)
      have hS2 : Blk (w2.setCell ⟨w.heap.size + 1, 0, none⟩ (.pointer p2)) (w.heap.size + 1) 25 #[.pointer p2] := (HSS.out.ext hX2).set_ 0 _
      have hT3 : IsT (w2.setCell ⟨w.heap.size + 1, 0, none⟩ (.pointer p2)) (In (w.heap.size + 2) (w2.setCell ⟨w.heap.size + 1, 0, none⟩ (.pointer p2)).heap.size) T2 := by
        have hs2 := hX2.size
        have hlt := lS
        have hm : ∀ i, Up (In (w.heap.size + 2) wr.heap.size) (wr.alloc (.cells #[.string x.k, .int .i64 x.v.kind, .bool x.v.b, .int .i64 x.v.i, .string x.v.t, .slice x.sl.a x.v.l.length x.sl.c, .slice x.so.a x.v.ok.length x.so.c] 64)) w2 i → In (w.heap.size + 2) w2.heap.size i := fun i hi => by
          rcases hi with hi | hi
          · exact ⟨hi.1, Nat.lt_of_lt_of_le hi.2 hs2⟩
          · have := hi.1
            simp at this
            exact ⟨by omega, hi.2⟩
        refine ((hT2.mono hm).agree (Agree.setCell w2 ⟨w.heap.size + 1, 0, none⟩ _ (fun h => by have h1 : w.heap.size + 2 ≤ w.heap.size + 1 := h.1; omega))).mono fun i hi => ⟨hi.1, by simpa using hi.2⟩
      have HB2 := Lib.hid (BuiltR.snoc HB.out hp2)
      have H1 := Lib.hid hE
      have H2 := Lib.hid hR2
      have H3 := Lib.hid hS2
      have H4 := Lib.hid hT3
      clear hp2 hT2 hx2 hX2 hE hR2 hS2 hT3
      go_wp2_with fail
      go_roundw
      case rel => exact ⟨j + 1, T2, p2, hlt, by go_num, H1.out, H2.out, H3.out, HQ2, by rw [List.take_add_one, HXJ.out, List.map_append]; exact HB2.out, H4.out⟩
      case measure => simp [intOf]; omega
    · obtain rfl : j = xs.length := by omega
      have r0 : wr.cell? ⟨w.heap.size, 0, none⟩ = some (.pointer none) := hR.cell 0
      have fR := hR.frozen
      clear hx hR hS hB hT
      go_wp2_with fail
      have q0 : (wr.setCell ⟨w.heap.size, 0, none⟩ (.pointer p)).cell? ⟨w.heap.size, 0, none⟩ = some (.pointer p) := World.cell?_setCell_same wr _ _ r0
      refine bodyPost_ret (v := .agg #[.pointer p]) (by simp [results, Tryz.results24, go_sem, q0]) rfl ?_
      refine ⟨T, by rw [treeV, HP.out], by have := HB.out; rwa [List.take_length] at this, ?_, HX.out.setCell (p := ⟨w.heap.size, 0, none⟩) (Nat.le_refl _) _⟩
      exact (HT.out.agree (Agree.setCell wr ⟨w.heap.size, 0, none⟩ _ (fun h => by have h1 : w.heap.size + 2 ≤ w.heap.size := h.1; omega))).mono fun i hi => ⟨by have := hi.1; omega, by simpa using hi.2⟩
theorem build_any {w : World} {s : Sl} {xs : List LE} (hs : ES w (Lt w.heap.size) s xs) (hl : xs.length ≤ 100000) : Calls Tryz.prog 24 #[.slice s.a xs.length s.c] w (BuildPost (xs.map LE.ent) w) := build_big hs (by omega)
end Go.Proofs.YtechahocffcbpaaGreatDoor
namespace Go.Proofs.YtechahocffcbpaaGreatDoor
open Go.RowKit Go.Maps
set_option linter.unusedVariables false
set_option linter.unusedSimpArgs false
section
variable {α : Type}
abbrev AL (α : Type) := List (ByteArray × α)
def SortedA (C : AL α) : Prop := C.Pairwise fun a b => klt a.1 b.1 = true
def getA : AL α → ByteArray → Option α
  | [], _ => none
  | e :: r, k => if e.1 = k then some e.2 else getA r k
def putA : AL α → ByteArray → α → AL α
  | [], k, v => [(k, v)]
  | e :: r, k, v => if klt e.1 k then e :: putA r k v else if e.1 = k then (k, v) :: r else (k, v) :: e :: r
def delA (C : AL α) (k : ByteArray) : AL α := C.filter fun p => !decide (p.1 = k)
theorem getA_none {C : AL α} {k : ByteArray} (h : ∀ e ∈ C, e.1 ≠ k) : getA C k = none := by
  induction C with
  | nil => rfl
  | cons e r ih => rw [getA, if_neg (h e (List.mem_cons_self ..)), ih fun f hf => h f (List.mem_cons_of_mem _ hf)]
theorem getA_some {C : AL α} {k : ByteArray} {s : α} (h : getA C k = some s) : (k, s) ∈ C := by
  induction C with
  | nil => cases h
  | cons e r ih =>
    rw [getA] at h
    by_cases he : e.1 = k
    · rw [if_pos he] at h
      injection h with h
      subst he h
      exact List.mem_cons_self ..
    · rw [if_neg he] at h
      exact List.mem_cons_of_mem _ (ih h)
theorem sortedA_far {e : ByteArray × α} {r : AL α} (h : SortedA (e :: r)) : SortedA r ∧ ∀ f ∈ r, klt e.1 f.1 = true ∧ f.1 ≠ e.1 := by
  obtain ⟨h1, h2⟩ := List.pairwise_cons.1 h
  exact ⟨h2, fun f hf => ⟨h1 f hf, fun e2 => by have := h1 f hf; rw [e2, klt_irrefl] at this; cases this⟩⟩
theorem getA_mem {C : AL α} (hs : SortedA C) {k : ByteArray} {s : α} (h : (k, s) ∈ C) : getA C k = some s := by
  induction C with
  | nil => cases h
  | cons e r ih =>
    obtain ⟨h2, h1⟩ := sortedA_far hs
    rw [getA]
    rcases List.mem_cons.1 h with rfl | h
    · rw [if_pos rfl]
    · rw [if_neg (fun e2 => (h1 _ h).2 e2.symm), ih h2 h]
theorem getA_put : ∀ (C : AL α) (k : ByteArray) (v : α) (x : ByteArray), getA (putA C k v) x = if x = k then some v else getA C x
  | [], k, v, x => by
    simp only [putA, getA]
    by_cases h : x = k
    · rw [if_pos h.symm, if_pos h]
    · rw [if_neg (fun e => h e.symm), if_neg h]
  | e :: es, k, v, x => by
    by_cases h1 : klt e.1 k = true
    · rw [putA, if_pos h1, getA, getA, getA_put es k v x]
      by_cases h : x = k
      · have : e.1 ≠ x := fun h2 => by rw [h2, h, klt_irrefl] at h1; cases h1
        rw [if_neg this, if_pos h, if_pos h]
      · rw [if_neg h, if_neg h]
    · rw [putA, if_neg h1]
      by_cases h2 : e.1 = k
      · rw [if_pos h2, getA, getA, h2]
        by_cases h : x = k
        · rw [if_pos h.symm, if_pos h]
        · rw [if_neg (fun e => h e.symm), if_neg h, if_neg (fun e => h e.symm)]
      · rw [if_neg h2, getA]
        by_cases h : x = k
        · rw [if_pos h.symm, if_pos h]
        · rw [if_neg (fun e => h e.symm), if_neg h]
theorem getA_del (k x : ByteArray) : ∀ (C : AL α), getA (delA C k) x = if x = k then none else getA C x
  | [] => by simp [delA, getA]
  | e :: r => by
    have ih := getA_del k x r
    unfold delA at ih ⊢
    by_cases h : e.1 = k
    · rw [List.filter_cons, if_neg (by simp [h]), ih, getA]
      by_cases hx : x = k
      · rw [if_pos hx, if_pos hx]
      · rw [if_neg hx, if_neg hx, if_neg (fun e2 => hx (e2.symm.trans h))]
    · rw [List.filter_cons, if_pos (by simp [h]), getA, ih, getA]
      by_cases hx : x = k
      · rw [if_pos hx, if_pos hx, if_neg (fun e2 => h (e2.trans hx))]
      · rw [if_neg hx, if_neg hx]
theorem mem_putA {C : AL α} {k : ByteArray} {v : α} {x : ByteArray × α} (h : x ∈ putA C k v) : x = (k, v) ∨ x ∈ C := by
  induction C with
  | nil => exact .inl (by simpa [putA] using h)
  | cons e r ih =>
    rw [putA] at h
    split at h
    · rcases List.mem_cons.1 h with rfl | h
      · exact .inr (List.mem_cons_self ..)
      · exact (ih h).imp id (List.mem_cons_of_mem _)
    · split at h
      · rcases List.mem_cons.1 h with rfl | h
        · exact .inl rfl
        · exact .inr (List.mem_cons_of_mem _ h)
      · exact List.mem_cons.1 h
theorem putA_sorted {C : AL α} (h : SortedA C) (k : ByteArray) (v : α) : SortedA (putA C k v) := by
  induction C with
  | nil => exact List.pairwise_cons.2 ⟨fun _ hx => (by cases hx), List.Pairwise.nil⟩
  | cons e r ih =>
    obtain ⟨h1, h2⟩ := List.pairwise_cons.1 h
    rw [putA]
    split
    · rename_i hk
      refine List.pairwise_cons.2 ⟨fun x hx => ?_, ih h2⟩
      rcases mem_putA hx with rfl | hx
      · exact hk
      · exact h1 x hx
    · rename_i hk
      split
      · rename_i he
        exact List.pairwise_cons.2 ⟨fun x hx => by rw [← he]; exact h1 x hx, h2⟩
      · rename_i he
        have hlt : klt k e.1 = true := klt_of_not (by simpa using hk) he
        refine List.pairwise_cons.2 ⟨fun x hx => ?_, h⟩
        rcases List.mem_cons.1 hx with rfl | hx
        · exact hlt
        · exact klt_trans hlt (h1 x hx)
theorem delA_sorted {C : AL α} (h : SortedA C) (k : ByteArray) : SortedA (delA C k) := h.sublist (List.filter_sublist ..)
theorem sortedA_ext : ∀ {a b : AL α}, SortedA a → SortedA b → (∀ k, getA a k = getA b k) → a = b
  | [], [], _, _, _ => rfl
  | [], f :: b, _, _, h => by have := h f.1; simp [getA] at this
  | e :: a, [], _, _, h => by have := h e.1; simp [getA] at this
  | e :: a, f :: b, ha, hb, h => by
    obtain ⟨a2, a1⟩ := sortedA_far ha
    obtain ⟨b2, b1⟩ := sortedA_far hb
    have hk : e.1 = f.1 := by
      refine klt_total ?_ ?_
      · cases hc : klt e.1 f.1 with
        | false => rfl
        | true =>
          have h1 := h e.1
          rw [getA, if_pos rfl, getA_none (C := f :: b) (fun g hg e2 => by
            rcases List.mem_cons.1 hg with rfl | hg
            · rw [e2, klt_irrefl] at hc; cases hc
            · have := klt_trans hc (b1 g hg).1; rw [e2, klt_irrefl] at this; cases this)] at h1
          cases h1
      · cases hc : klt f.1 e.1 with
        | false => rfl
        | true =>
          have h1 := h f.1
          rw [getA_none (C := e :: a) (k := f.1) (fun g hg e2 => by
            rcases List.mem_cons.1 hg with rfl | hg
            · rw [e2, klt_irrefl] at hc; cases hc
            · have := klt_trans hc (a1 g hg).1; rw [e2, klt_irrefl] at this; cases this), getA, if_pos rfl] at h1
          cases h1
    have h0 := h e.1
    rw [getA, if_pos rfl, getA, if_pos hk.symm] at h0
    injection h0 with h0
    have he : e = f := Prod.ext hk h0
    subst he
    rw [sortedA_ext a2 b2 fun k => ?_]
    by_cases hx : e.1 = k
    · rw [getA_none fun g hg e2 => (a1 g hg).2 (e2.trans hx.symm), getA_none fun g hg e2 => (b1 g hg).2 (e2.trans hx.symm)]
    · have := h k
      rwa [getA, if_neg hx, getA, if_neg hx] at this
theorem putA_undo {C : AL α} (h : SortedA C) {k : ByteArray} {s old : α} (ho : getA C k = some old) : putA (putA C k s) k old = C :=
  sortedA_ext (putA_sorted (putA_sorted h k s) k old) h fun x => by
    rw [getA_put, getA_put]
    by_cases hx : x = k
    · rw [if_pos hx, hx, ho]
    · rw [if_neg hx, if_neg hx]
theorem delA_undo {C : AL α} (h : SortedA C) {k : ByteArray} {s : α} (ho : getA C k = none) : delA (putA C k s) k = C :=
  sortedA_ext (delA_sorted (putA_sorted h k s) k) h fun x => by
    rw [getA_del, getA_put]
    by_cases hx : x = k
    · rw [if_pos hx, hx, ho]
    · rw [if_neg hx, if_neg hx]
theorem putA_len {C : AL α} {k : ByteArray} {v : α} : (putA C k v).length ≤ C.length + 1 := by
  induction C with
  | nil => simp [putA]
  | cons e r ih =>
    rw [putA]
    split
    · simp only [List.length_cons]; omega
    · split <;> simp only [List.length_cons] <;> omega
end
section
variable {α : Type} (f : α → Value)
abbrev keyS (k : ByteArray) : Lit := .string k.data.toList
abbrev entA (p : ByteArray × α) : Lit × DataW Value := (keyS p.1, .held (f p.2))
def mapA (C : AL α) : DataW Value := .map (C.map (entA f))
def heldR (v : Value) : Option (DataW Value × List MemPlace) := some (.held v, [])
theorem heldR_inv {v u : Value} {ps : List MemPlace} (h : heldR v = some (.held u, ps)) : v = u := by
  injection h with h; injection h with h; injection h
theorem before_eq : ∀ a b : List UInt8, bytesBefore a b = Op.bytesLess a b
  | [], [] => rfl
  | [], _ :: _ => rfl
  | _ :: _, [] => rfl
  | a :: x, b :: y => by rw [bytesBefore, Op.bytesLess, before_eq x y]
theorem before_keyS (a b : ByteArray) : (keyS a).before (keyS b) = klt a b := by
  show bytesBefore _ _ = Op.bytesLess _ _
  rw [before_eq, ByteArray.toList_eq, ByteArray.toList_eq]
theorem same_keyS (a b : ByteArray) : (keyS a).sameKey (keyS b) = decide (a = b) := by
  show (a.data.toList == b.data.toList) = _
  rw [← ByteArray.toList_eq, ← ByteArray.toList_eq]
  exact beq_toList a b
theorem has_mapA (C : AL α) (k : ByteArray) : Maps.has (mapA f C) (keyS k) = (getA C k).isSome := by
  show List.any (List.map _ C) _ = _
  induction C with
  | nil => rfl
  | cons e r ih =>
    rw [List.map_cons, List.any_cons, ih, getA]
    show ((keyS e.1).sameKey (keyS k) || _) = _
    rw [same_keyS]
    by_cases h : e.1 = k
    · rw [if_pos h, decide_eq_true h]; rfl
    · rw [if_neg h, decide_eq_false h]; rfl
theorem at_mapA (C : AL α) (k : ByteArray) (zd : DataW Value) : (mapA f C).atKey (keyS k) zd = match getA C k with
    | some s => .held (f s)
    | none => zd := by
  unfold mapA
  simp only [DataW.atKey]
  induction C with
  | nil => rfl
  | cons e r ih =>
    rw [List.map_cons, List.find?_cons, getA]
    by_cases h : e.1 = k
    · rw [if_pos h, show (keyS e.1).sameKey (keyS k) = true by rw [same_keyS, decide_eq_true h]]
    · rw [if_neg h, show (keyS e.1).sameKey (keyS k) = false by rw [same_keyS, decide_eq_false h]]
      exact ih
theorem size_mapA (C : AL α) : Maps.size (mapA f C) = C.length := by
  show List.length (List.map _ C) = _
  rw [List.length_map]
theorem filter_mapA (k : ByteArray) : ∀ C : AL α, (C.map (entA f)).filter (fun p => !p.1.sameKey (keyS k)) = (delA C k).map (entA f)
  | [] => rfl
  | e :: r => by
    have ih := filter_mapA k r
    unfold delA at ih ⊢
    rw [List.map_cons, List.filter_cons, List.filter_cons, ih]
    show (if (!(keyS e.1).sameKey (keyS k)) = true then _ else _) = _
    rw [same_keyS]
    split <;> rfl
theorem del_mapA (C : AL α) (k : ByteArray) : (mapA f C).del (keyS k) = mapA f (delA C k) := by
  show DataW.map (List.filter _ (List.map _ C)) = _
  rw [filter_mapA]; rfl
theorem insert_mapA (k : ByteArray) (s : α) : ∀ C : AL α, SortedA C → DataW.insert (keyS k, (DataW.held (f s) : DataW Value)) ((delA C k).map (entA f)) = (putA C k s).map (entA f)
  | [], _ => rfl
  | e :: r, h => by
    obtain ⟨h2, h1⟩ := sortedA_far h
    have ih := insert_mapA k s r h2
    have hdel : ∀ x : ByteArray, (∀ g ∈ r, g.1 ≠ x) → delA r x = r := fun x hx => List.filter_eq_self.2 fun g hg => by simp [hx g hg]
    have hstep : ∀ (g : ByteArray × α) (t : AL α), klt k g.1 = true → DataW.insert (keyS k, (DataW.held (f s) : DataW Value)) ((g :: t).map (entA f)) = (((k, s) :: g :: t).map (entA f)) := fun g t hg => by
      rw [List.map_cons, DataW.insert, if_pos (by show (keyS k).before (keyS g.1) = true; rw [before_keyS, hg])]
      rfl
    rw [putA]
    by_cases hk : klt e.1 k = true
    · have hne : e.1 ≠ k := fun e2 => by rw [e2, klt_irrefl] at hk; cases hk
      rw [if_pos hk, show delA (e :: r) k = e :: delA r k by unfold delA; rw [List.filter_cons, if_pos (by simp [hne])], List.map_cons, DataW.insert, if_neg (by show ¬ (keyS k).before (keyS e.1) = true; rw [before_keyS, klt_asymm hk]; simp), ih]
      rfl
    · rw [if_neg hk]
      by_cases he : e.1 = k
      · rw [if_pos he, show delA (e :: r) k = r by
          rw [← he]
          show List.filter _ _ = _
          rw [List.filter_cons, if_neg (by simp)]
          exact hdel e.1 fun g hg => (h1 g hg).2]
        cases r with
        | nil => rfl
        | cons g t => exact hstep g t (by rw [← he]; exact (h1 g (List.mem_cons_self ..)).1)
      · have hlt : klt k e.1 = true := klt_of_not (by simpa using hk) he
        rw [if_neg he, show delA (e :: r) k = e :: r by
          show List.filter _ _ = _
          rw [List.filter_cons, if_pos (by simp [he])]
          exact congrArg (e :: ·) (hdel k fun g hg e2 => by have := klt_trans hlt (h1 g hg).1; rw [e2, klt_irrefl] at this; cases this)]
        exact hstep e r hlt
theorem put_mapA {C : AL α} (h : SortedA C) (k : ByteArray) (s : α) : (mapA f C).put (keyS k) (.held (f s)) = mapA f (putA C k s) := by
  show DataW.map (DataW.insert _ (List.filter _ (List.map _ C))) = _
  rw [filter_mapA, insert_mapA f k s C h]; rfl
end
end Go.Proofs.YtechahocffcbpaaGreatDoor
namespace Go.Proofs.YtechahocffcbpaaGreatDoor
open Go.RowKit
set_option linter.unusedVariables false
set_option linter.unusedSimpArgs false
abbrev Slots := AL (Option Val)
def nowE (B : List Ent) (C : Slots) (k : ByteArray) : Option Val := match getA C k with
  | some s => s
  | none => getE B k
def comE (B : List Ent) : Slots → List Ent → List Ent
  | [], t => t
  | (k, some v) :: r, t => comE B r (if (getE B k).any (fun was => decide (cmpV was v = 0)) then t else insE t k v)
  | (k, none) :: r, t => comE B r (if (getE B k).isSome then delE t k else t)
def idleC (B : List Ent) (C : Slots) : Prop := ∀ k s, getA C k = some s → match s with
  | some v => (getE B k).any (fun was => decide (cmpV was v = 0)) = true
  | none => getE B k = none
theorem rise_ext : ∀ {a b : List ByteArray}, a.Pairwise (fun x y => klt x y = true) → b.Pairwise (fun x y => klt x y = true) → (∀ k, k ∈ a ↔ k ∈ b) → a = b
  | [], [], _, _, _ => rfl
  | [], y :: b, _, _, h => by have := (h y).2 (List.mem_cons_self ..); cases this
  | x :: a, [], _, _, h => by have := (h x).1 (List.mem_cons_self ..); cases this
  | x :: a, y :: b, ha, hb, h => by
    obtain ⟨a1, a2⟩ := List.pairwise_cons.1 ha
    obtain ⟨b1, b2⟩ := List.pairwise_cons.1 hb
    have hxy : x = y := by
      rcases List.mem_cons.1 ((h x).1 (List.mem_cons_self ..)) with e | e
      · exact e
      · rcases List.mem_cons.1 ((h y).2 (List.mem_cons_self ..)) with e2 | e2
        · exact e2.symm
        · have h1 := b1 x e
          have h2 := a1 y e2
          rw [klt_asymm h1] at h2; cases h2
    subst hxy
    rw [rise_ext a2 b2 fun k => ⟨fun hk => ?_, fun hk => ?_⟩]
    · rcases List.mem_cons.1 ((h k).1 (List.mem_cons_of_mem _ hk)) with e | e
      · have := a1 k hk; rw [e, klt_irrefl] at this; cases this
      · exact e
    · rcases List.mem_cons.1 ((h k).2 (List.mem_cons_of_mem _ hk)) with e | e
      · have := b1 k hk; rw [e, klt_irrefl] at this; cases this
      · exact e
theorem getE_mem {B : List Ent} (hs : Sorted B) {e : Ent} (h : e ∈ B) : getE B e.1 = some e.2 := by
  induction B with
  | nil => cases h
  | cons f r ih =>
    obtain ⟨h1, h2⟩ := List.pairwise_cons.1 hs
    rw [getE]
    rcases List.mem_cons.1 h with rfl | h
    · rw [if_pos rfl]
    · have := h1 _ h
      rw [if_neg (fun e2 => by rw [e2, klt_irrefl] at this; cases this), ih h2 h]
theorem mem_getE {B : List Ent} {k : ByteArray} {v : Val} (h : getE B k = some v) : (k, v) ∈ B := by
  induction B with
  | nil => cases h
  | cons e r ih =>
    rw [getE] at h
    by_cases he : e.1 = k
    · rw [if_pos he] at h
      injection h with h
      subst he h
      exact List.mem_cons_self ..
    · rw [if_neg he] at h
      exact List.mem_cons_of_mem _ (ih h)
structure SV where
  has : Bool
  v : Val
  sl : Sl
  so : Sl
abbrev SV.cells (s : SV) : Array Value := #[.bool s.has, .int .i64 s.v.kind, .bool s.v.b, .int .i64 s.v.i, .string s.v.t, .slice s.sl.a s.v.l.length s.sl.c, .slice s.so.a s.v.ok.length s.so.c]
abbrev SV.val (s : SV) : Value := .agg s.cells
def SV.opt (s : SV) : Option Val := if s.has then some s.v else none
def optA (C : AL SV) : Slots := C.map fun p => (p.1, p.2.opt)
theorem getA_opt (k : ByteArray) : ∀ C : AL SV, getA (optA C) k = (getA C k).map SV.opt
  | [] => rfl
  | e :: r => by
    have ih := getA_opt k r
    unfold optA at ih ⊢
    rw [List.map_cons, getA, getA, ih]
    split <;> rfl
structure UD where
  k : ByteArray
  old : Option SV
def undo1 (u : UD) (C : AL SV) : AL SV := match u.old with
  | some o => putA C u.k o
  | none => delA C u.k
theorem undo1_put {C : AL SV} (h : SortedA C) {k : ByteArray} (s : SV) : undo1 ⟨k, getA C k⟩ (putA C k s) = C := by
  unfold undo1
  cases ho : getA C k with
  | some o => exact putA_undo h ho
  | none => exact delA_undo h ho
theorem undo1_sorted {C : AL SV} (h : SortedA C) (u : UD) : SortedA (undo1 u C) := by
  unfold undo1
  split
  · exact putA_sorted h _ _
  · exact delA_sorted h _
def backA (us : List UD) (C : AL SV) (m : Nat) : AL SV := (us.drop m).foldr undo1 C
theorem backA_end (us : List UD) (C : AL SV) : backA us C us.length = C := by simp [backA]
theorem backA_step {us : List UD} {C : AL SV} {m : Nat} {u : UD} (h : us[m]? = some u) : backA us C m = undo1 u (backA us C (m + 1)) := by
  obtain ⟨hm, rfl⟩ := List.getElem?_eq_some_iff.1 h
  unfold backA
  rw [List.drop_eq_getElem_cons hm]
  rfl
structure Chain (us : List UD) (H : List (AL SV)) : Prop where
  len : H.length = us.length + 1
  step : ∀ i u, us[i]? = some u → ∃ (C : AL SV) (s : SV), H[i]? = some C ∧ SortedA C ∧ u.old = getA C u.k ∧ H[i + 1]? = some (putA C u.k s)
theorem Chain.nil (C : AL SV) : Chain [] [C] := ⟨rfl, fun i u h => by simp at h⟩
theorem Chain.snoc {us : List UD} {H : List (AL SV)} {C : AL SV} (h : Chain us (H ++ [C])) (hs : SortedA C) (k : ByteArray) (s : SV) : Chain (us ++ [⟨k, getA C k⟩]) (H ++ [C] ++ [putA C k s]) := by
  have hl := h.len
  rw [List.length_append, List.length_singleton] at hl
  refine ⟨by simp; omega, fun i u hi => ?_⟩
  rcases Nat.lt_trichotomy i us.length with hlt | heq | hgt
  · rw [List.getElem?_append_left hlt] at hi
    obtain ⟨C', s', h1, h2, h3, h4⟩ := h.step i u hi
    exact ⟨C', s', by rw [List.getElem?_append_left (by simp; omega)]; exact h1, h2, h3, by rw [List.getElem?_append_left (by simp; omega)]; exact h4⟩
  · subst heq
    rw [List.getElem?_append_right (Nat.le_refl _), Nat.sub_self] at hi
    injection hi with hi
    subst hi
    refine ⟨C, s, ?_, hs, rfl, ?_⟩
    · rw [List.getElem?_append_left (by simp; omega), List.getElem?_append_right (by omega), show us.length - H.length = 0 by omega]; rfl
    · rw [List.getElem?_append_right (by simp; omega), show us.length + 1 - (H ++ [C]).length = 0 by simp; omega]; rfl
  · rw [List.getElem?_eq_none (by simp; omega)] at hi
    cases hi
theorem Chain.back {us : List UD} {H : List (AL SV)} {C : AL SV} (h : Chain us H) (hC : H[us.length]? = some C) : ∀ d m, m + d = us.length → H[m]? = some (backA us C m)
  | 0, m, hm => by
    obtain rfl : m = us.length := by omega
    rw [backA_end]; exact hC
  | d + 1, m, hm => by
    have hlt : m < us.length := by omega
    have hu := List.getElem?_eq_getElem hlt
    obtain ⟨C', s, h1, h2, h3, h4⟩ := h.step m _ hu
    have ih := h.back hC d (m + 1) (by omega)
    rw [h4] at ih
    injection ih with ih
    rw [h1, backA_step hu, ← ih]
    congr 1
    have := undo1_put h2 (k := (us[m]'hlt).k) s
    rw [← h3] at this
    exact this.symm
theorem Chain.take {us : List UD} {H : List (AL SV)} (h : Chain us H) {m : Nat} (hm : m ≤ us.length) : Chain (us.take m) (H.take (m + 1)) := by
  refine ⟨by rw [List.length_take, List.length_take, h.len]; omega, fun i u hi => ?_⟩
  have him : i < m := by
    have := (List.getElem?_eq_some_iff.1 hi).1
    rw [List.length_take] at this; omega
  rw [List.getElem?_take_of_lt him] at hi
  obtain ⟨C, s, h1, h2, h3, h4⟩ := h.step i u hi
  exact ⟨C, s, by rw [List.getElem?_take_of_lt (by omega)]; exact h1, h2, h3, by rw [List.getElem?_take_of_lt (by omega)]; exact h4⟩
theorem backA_sorted {C : AL SV} (h : SortedA C) (us : List UD) (m : Nat) : SortedA (backA us C m) := by
  unfold backA
  induction us.drop m with
  | nil => exact h
  | cons u r ih => exact undo1_sorted ih u
section
variable {H : Type} {enc : TypeId × Value → H} {P : Program} {w : World} {held : Bool}
abbrev WOk (P : Program) (t : TypeId) (d : DataW H) : Prop := (DataW.weights P t d).all (· ≤ reachBytes) = true
abbrev tr (enc : TypeId × Value → H) (P : Program) (w : World) (held : Bool) (fuel : Nat) (t : TypeId) (cs : List Value) : Option (DataW H × List MemPlace) := DataW.trod enc P w 0 (fun _ => true) held fuel t cs
theorem weightsAll_mem {e : TypeId} : ∀ {l : List (DataW H)}, (DataW.weightsAll P e l).all (· ≤ reachBytes) = true → ∀ d ∈ l, WOk P e d
  | [], _, d, hd => by cases hd
  | x :: l, h, d, hd => by
    simp only [DataW.weightsAll, List.all_append, Bool.and_eq_true] at h
    rcases List.mem_cons.1 hd with rfl | hd
    · exact h.1
    · exact weightsAll_mem h.2 d hd
theorem weightsEach_at : ∀ {ts : List TypeId} {ds : List (DataW H)}, (DataW.weightsEach P ts ds).all (· ≤ reachBytes) = true → ∀ (i : Nat) (t : TypeId) (d : DataW H), ts[i]? = some t → ds[i]? = some d → WOk P t d
  | [], _, _, i, t, d, ht, _ => by simp at ht
  | t :: ts, [], _, i, t', d, _, hd => by simp at hd
  | t :: ts, d :: ds, h, i, t', d', ht, hd => by
    simp only [DataW.weightsEach, List.all_append, Bool.and_eq_true] at h
    cases i with
    | zero => simp at ht hd; subst ht hd; exact h.1
    | succ i => exact weightsEach_at h.2 i t' d' (by simpa using ht) (by simpa using hd)
theorem trod_rows {t e : TypeId} {C B fuel : Nat} {cs : List Value} {x : DataW H × List MemPlace} (ht : P.underlying t = some (.slice e)) (hC : P.cellsOf e = C) (hB : P.bytesOf e = B) (hC0 : 0 < C)
    (h : tr enc P w held fuel t cs = some x) (hw : WOk P t x.1) :
    ∃ (n len : Nat) (s : Sl) (b o : Nat), fuel = n + 1 ∧ cs = [.slice s.a len s.c] ∧ SlAt (Lt w.heap.size) s len b o ∧ len * B ≤ 140737488351232 ∧
      ∀ i, i < len → ∃ cs' y, cs'.length = C ∧ (∀ j, j < C → w.cell? ⟨b, o + i * C + j, none⟩ = cs'[j]?) ∧ tr enc P w held n e cs' = some y ∧ WOk P e y.1 := by
  rcases DataW.trod_slice ht h with ⟨rfl, rfl⟩ | ⟨a, len, cap, elems, rest, n, rfl, rfl, rfl, -, hl, hm, hlen, hel, hsp, -⟩
  · cases fuel with
    | zero => simp [tr, DataW.trod] at h
    | succ n => exact ⟨n, 0, Sl.none, 0, 0, rfl, rfl, .nil _ _, by omega, fun i hi => by omega⟩
  · obtain ⟨hr, hrest⟩ := hsp rfl
    have hw0 : (elems.length + rest.length) * P.bytesOf e ≤ reachBytes ∧ (DataW.weightsAll P e (elems.map (·.1))).all (· ≤ reachBytes) = true := by
      have hw' := hw
      simp only [WOk, DataW.weights, ht, List.all_cons, List.all_append, Bool.and_eq_true, decide_eq_true_eq, List.length_map] at hw'
      exact ⟨hw'.1, hw'.2.1⟩
    rw [hB] at hw0
    rw [hC] at hel hrest
    by_cases hcap : cap = 0
    · subst hcap
      obtain rfl : len = 0 := by omega
      exact ⟨n, 0, ⟨some a, 0⟩, 0, 0, rfl, rfl, .zero a 0 0, by omega, fun i hi => by omega⟩
    · have hlb : len * B ≤ 140737488351232 := by
        have h1 : len * B ≤ (elems.length + rest.length) * B := Nat.mul_le_mul_right _ (by omega)
        have h2 := hw0.1
        have h3 : reachBytes = 140737488351232 := rfl
        omega
      have hex : ∃ z : DataW H × List MemPlace, ∃ k, (w.cells? 0 (a.add (k * C)) C).bind (tr enc P w held n e) = some z ∧ k = 0 := by
        by_cases h0 : 0 < len
        · exact ⟨elems[0]'(by omega), 0, by rw [hel 0 h0]; exact List.getElem?_eq_getElem (by omega), rfl⟩
        · have := hrest 0 (by omega)
          have e0 : len = 0 := by omega
          rw [e0, Nat.add_zero] at this
          exact ⟨rest[0]'(by omega), 0, by rw [this]; exact List.getElem?_eq_getElem (by omega), rfl⟩
      obtain ⟨z, k, hz, rfl⟩ := hex
      obtain ⟨cs0, hc0, -⟩ := Option.bind_eq_some_iff.1 hz
      obtain ⟨-, hl0, hat0⟩ := World.cells?_some hc0
      have hcell : w.cell? (a.add 0) = some (cs0[0]'(by omega)) := by
        have := hat0 0 hC0
        rw [Nat.zero_mul] at this
        rw [List.getElem?_eq_getElem (by omega)] at this
        simpa [Addr.add] using this
      obtain ⟨b, o, spot⟩ := a
      have hspot : spot = none := by simpa [Addr.add] using World.cell?_spot hcell
      subst hspot
      have hblk : b < w.heap.size := by
        have h1 : w.cell? ⟨b, o, none⟩ = some (cs0[0]'(by omega)) := by simpa [Addr.add] using hcell
        exact World.block_lt_of_cell? w _ h1
      refine ⟨n, len, ⟨some ⟨b, o, none⟩, cap⟩, b, o, rfl, rfl, .some _ _ _ _ hl hm hblk, hlb, fun i hi => ?_⟩
      have he := hel i hi
      rw [List.getElem?_eq_getElem (by omega)] at he
      obtain ⟨cs', h1, h2⟩ := Option.bind_eq_some_iff.1 he
      obtain ⟨-, hl1, hat1⟩ := World.cells?_some h1
      refine ⟨cs', _, hl1, fun j hj => ?_, h2, weightsAll_mem hw0.2 _ (List.mem_map_of_mem (List.getElem_mem (by omega)))⟩
      have := hat1 j hj
      rw [Go.WideShapes.add_plain, Go.WideShapes.add_plain] at this
      exact this
theorem trod_fields {t : TypeId} {fs : List Field} {fuel : Nat} {cs : List Value} {x : DataW H × List MemPlace} (ht : P.underlying t = some (.struct fs.toArray)) (h : tr enc P w held fuel t cs = some x) (hw : WOk P t x.1) :
    ∃ n, fuel = n + 1 ∧ cs.length = P.cellsOf t ∧ ∀ (i : Nat) (f : Field), fs[i]? = some f → ∃ y, tr enc P w held n f.type ((cs.drop f.offset).take (P.cellsOf f.type)) = some y ∧ WOk P f.type y.1 := by
  obtain ⟨xs, n, rfl, rfl, hl, hlen, hf⟩ := DataW.trod_struct ht h
  refine ⟨n, rfl, hl, fun i f hi => ?_⟩
  have hw' : (DataW.weightsEach P (fs.map (·.type)) (xs.map (·.1))).all (· ≤ reachBytes) = true := by
    have := hw
    simpa [WOk, DataW.weights, ht] using this
  have hil : i < fs.length := (List.getElem?_eq_some_iff.1 hi).1
  have h1 := hf i f (by simpa using hi)
  have hxl : i < xs.length := by simp at hlen; omega
  rw [List.getElem?_eq_getElem hxl] at h1
  exact ⟨_, h1, weightsEach_at hw' i _ _ (by rw [List.getElem?_map, hi]; rfl) (by rw [List.getElem?_map, List.getElem?_eq_getElem hxl]; rfl)⟩
theorem trod_i {t : TypeId} {k : IntKind} {fuel : Nat} {cs : List Value} {x : DataW H × List MemPlace} (ht : P.underlying t = some (.int k)) (h : tr enc P w held fuel t cs = some x) : ∃ n, cs = [.int k n] ∧ (Lit.int k n).wf = true := by
  obtain ⟨n, h1, -, h2⟩ := DataW.trod_int ht h
  exact ⟨n, h1, h2⟩
theorem trod_b {t : TypeId} {fuel : Nat} {cs : List Value} {x : DataW H × List MemPlace} (ht : P.underlying t = some .bool) (h : tr enc P w held fuel t cs = some x) : ∃ b, cs = [.bool b] := by
  obtain ⟨b, h1, -⟩ := DataW.trod_bool ht h
  exact ⟨b, h1⟩
theorem trod_s {t : TypeId} {fuel : Nat} {cs : List Value} {x : DataW H × List MemPlace} (ht : P.underlying t = some .string) (h : tr enc P w held fuel t cs = some x) : ∃ s, cs = [.string s] ∧ s.size ≤ maxLen := by
  obtain ⟨s, h1, -, h2⟩ := DataW.trod_string ht h
  exact ⟨s, h1, h2⟩
end
theorem skolem {α : Type} [Inhabited α] {p : Nat → Prop} {q : Nat → α → Prop} (h : ∀ i, p i → ∃ a, q i a) : ∃ f : Nat → α, ∀ i, p i → q i (f i) := by
  have : ∀ i, ∃ y : α, p i → q i y := fun i => by
    by_cases hp : p i
    · obtain ⟨a, hq⟩ := h i hp
      exact ⟨a, fun _ => hq⟩
    · exact ⟨default, fun h => absurd h hp⟩
  exact Classical.axiomOfChoice this
instance : Inhabited Val := ⟨.mk 0 false 0 ByteArray.empty [] [] []⟩
instance : Inhabited Sl := ⟨Sl.none⟩
theorem six_list {cs : List Value} (h : cs.length = 6) : ∃ a b c d e f, cs = [a, b, c, d, e, f] := by
  match cs, h with
  | [a, b, c, d, e, f], _ => exact ⟨_, _, _, _, _, _, rfl⟩
theorem at_of_take {cs l : List Value} {off k : Nat} (h : (cs.drop off).take k = l) {j : Nat} (hj : j < k) : cs[off + j]? = l[j]? := by
  rw [← h, List.getElem?_take, if_pos hj, List.getElem?_drop]
abbrev cellsV (v : Val) (sl so : Sl) : List Value := [.int .i64 v.kind, .bool v.b, .int .i64 v.i, .string v.t, .slice sl.a v.l.length sl.c, .slice so.a v.ok.length so.c]
theorem ofFn_get {α : Type} {n : Nat} {f : Nat → α} {j : Nat} {d : α} (h : ((List.range n).map f)[j]? = some d) : j < n ∧ d = f j := by
  rw [List.getElem?_map] at h
  obtain ⟨k, hk, rfl⟩ := Option.map_eq_some_iff.1 h
  obtain ⟨h1, rfl⟩ := List.getElem?_eq_some_iff.1 hk
  simp at h1
  exact ⟨h1, by simp⟩
section
variable {H : Type} {enc : TypeId × Value → H} {w : World} {held : Bool}
theorem cellsOfValue : Tryz.prog.cellsOf 34 = 6 := by kernel_rfl
theorem cellsOfMember : Tryz.prog.cellsOf 115 = 7 := by kernel_rfl
theorem cellsOfEntry : Tryz.prog.cellsOf 64 = 7 := by kernel_rfl
theorem bytesOfValue : Tryz.prog.bytesOf 34 = 88 := by kernel_rfl
theorem bytesOfMember : Tryz.prog.bytesOf 115 = 104 := by kernel_rfl
theorem bytesOfEntry : Tryz.prog.bytesOf 64 = 104 := by kernel_rfl
theorem rv_of_trod : ∀ (fuel : Nat) {cs : List Value} {x : DataW H × List MemPlace}, tr enc Tryz.prog w held fuel 34 cs = some x → WOk Tryz.prog 34 x.1 → ∃ v sl so, cs = cellsV v sl so ∧ RV w (Lt w.heap.size) v sl so := by
  intro fuel
  induction fuel using Nat.strongRecOn with
  | ind fuel ih =>
  intro cs x h hw
  obtain ⟨n, rfl, hl, hf⟩ := trod_fields Tryz.underlying34 h hw
  rw [cellsOfValue] at hl
  obtain ⟨c0, c1, c2, c3, c4, c5, rfl⟩ := six_list hl
  obtain ⟨y0, h0, -⟩ := hf 0 _ rfl
  obtain ⟨y1, h1, -⟩ := hf 1 _ rfl
  obtain ⟨y2, h2, -⟩ := hf 2 _ rfl
  obtain ⟨y3, h3, -⟩ := hf 3 _ rfl
  obtain ⟨y4, h4, w4⟩ := hf 4 _ rfl
  obtain ⟨y5, h5, w5⟩ := hf 5 _ rfl
  obtain ⟨k, hk, wk⟩ := trod_i (k := .i64) (by kernel_rfl) h0
  obtain ⟨bb, hb⟩ := trod_b (by kernel_rfl) h1
  obtain ⟨i, hi, wi⟩ := trod_i (k := .i64) (by kernel_rfl) h2
  obtain ⟨t, ht, wt⟩ := trod_s (by kernel_rfl) h3
  obtain ⟨n4, len, s, b, o, hn4, hc4, hs, hby, he⟩ := trod_rows (e := 34) (C := 6) (B := 88) (by kernel_rfl) cellsOfValue bytesOfValue (by decide) h4 w4
  obtain ⟨n5, len', s', b', o', hn5, hc5, hs', hby', he'⟩ := trod_rows (e := 115) (C := 7) (B := 104) (by kernel_rfl) cellsOfMember bytesOfMember (by decide) h5 w5
  have k0 : ∀ c : Value, ([c0, c1, c2, c3, c4, c5].drop 0).take 1 = [c] → c0 = c := fun c h => by simpa using h
  have k1 : ∀ c : Value, ([c0, c1, c2, c3, c4, c5].drop 1).take 1 = [c] → c1 = c := fun c h => by simpa using h
  have k2 : ∀ c : Value, ([c0, c1, c2, c3, c4, c5].drop 2).take 1 = [c] → c2 = c := fun c h => by simpa using h
  have k3 : ∀ c : Value, ([c0, c1, c2, c3, c4, c5].drop 3).take 1 = [c] → c3 = c := fun c h => by simpa using h
  have k4 : ∀ c : Value, ([c0, c1, c2, c3, c4, c5].drop 4).take 1 = [c] → c4 = c := fun c h => by simpa using h
  have k5 : ∀ c : Value, ([c0, c1, c2, c3, c4, c5].drop 5).take 1 = [c] → c5 = c := fun c h => by simpa using h
  obtain rfl := k0 _ hk
  obtain rfl := k1 _ hb
  obtain rfl := k2 _ hi
  obtain rfl := k3 _ ht
  obtain rfl := k4 _ hc4
  obtain rfl := k5 _ hc5
  clear k0 k1 k2 k3 k4 k5 hk hb hi ht hc4 hc5 h0 h1 h2 h3 h4 h5 hf
  have hE : ∀ i, i < len → ∃ a : Val × Sl × Sl, VCells w b (o + i * 6) a.1 a.2.1 a.2.2 ∧ RV w (Lt w.heap.size) a.1 a.2.1 a.2.2 := fun i hi => by
    obtain ⟨cs', y, hl6, hc, ht, hw⟩ := he i hi
    obtain ⟨v, sl, so, rfl, hr⟩ := ih n4 (by omega) ht hw
    exact ⟨(v, sl, so), ⟨hc 0 (by decide), hc 1 (by decide), hc 2 (by decide), hc 3 (by decide), hc 4 (by decide), hc 5 (by decide)⟩, hr⟩
  have hM : ∀ i, i < len' → ∃ a : ByteArray × Val × Sl × Sl, (w.cell? ⟨b', o' + i * 7, none⟩ = some (.string a.1) ∧ a.1.size ≤ maxLen) ∧ VCells w b' (o' + i * 7 + 1) a.2.1 a.2.2.1 a.2.2.2 ∧ RV w (Lt w.heap.size) a.2.1 a.2.2.1 a.2.2.2 := fun i hi => by
    obtain ⟨cs', y, hl7, hc, ht, hw⟩ := he' i hi
    obtain ⟨n6, rfl, hl, hf⟩ := trod_fields Tryz.underlying115 ht hw
    obtain ⟨z0, g0, -⟩ := hf 0 _ rfl
    obtain ⟨z1, g1, u1⟩ := hf 1 _ rfl
    obtain ⟨k, hk, wk⟩ := trod_s (by kernel_rfl) g0
    have g1' : tr enc Tryz.prog w held n6 34 ((cs'.drop 1).take 6) = some z1 := by
      have := g1
      dsimp only at this
      rw [cellsOfValue] at this
      exact this
    obtain ⟨v, sl, so, hv, hr⟩ := ih n6 (by omega) g1' u1
    have a0 : cs'[0]? = some (.string k) := at_of_take hk (j := 0) (by decide)
    have cj : ∀ j, j < 6 → w.cell? ⟨b', o' + i * 7 + 1 + j, none⟩ = (cellsV v sl so)[j]? := fun j hj => by
      rw [← at_of_take hv hj, ← hc (1 + j) (by omega), Nat.add_assoc (o' + i * 7)]
    exact ⟨(k, v, sl, so), ⟨(hc 0 (by decide)).trans a0, wk⟩, ⟨cj 0 (by decide), cj 1 (by decide), cj 2 (by decide), cj 3 (by decide), cj 4 (by decide), cj 5 (by decide)⟩, hr⟩
  obtain ⟨f, hf⟩ := skolem hE
  obtain ⟨g, hg⟩ := skolem hM
  refine ⟨.mk k bb i t ((List.range len).map fun j => (f j).1) ((List.range len').map fun j => (g j).1) ((List.range len').map fun j => (g j).2.1), s, s', by simp [cellsV, Val.kind, Val.b, Val.i, Val.t, Val.l, Val.ok], ?_⟩
  refine .mk b o b' o' (fun j => ((f j).2.1, (f j).2.2)) (fun j => ((g j).2.2.1, (g j).2.2.2)) (by rw [List.length_map, List.length_range]; exact hs) (by rw [List.length_map, List.length_range]; exact hs') (by simp) (fun j d hj => ?_) (fun j d hj => ?_) (fun j d hj => ?_) (fun j d hj => ?_) (fun j d hj => ?_) wk wi wt (by rw [List.length_map, List.length_range]; omega) (by rw [List.length_map, List.length_range]; omega)
  · obtain ⟨h1, rfl⟩ := ofFn_get hj; exact (hf j h1).1
  · obtain ⟨h1, rfl⟩ := ofFn_get hj; exact (hf j h1).2
  · obtain ⟨h1, rfl⟩ := ofFn_get hj; exact (hg j h1).1
  · obtain ⟨h1, rfl⟩ := ofFn_get hj; exact (hg j h1).2.1
  · obtain ⟨h1, rfl⟩ := ofFn_get hj; exact (hg j h1).2.2
theorem es_of_trod {fuel : Nat} {cs : List Value} {x : DataW H × List MemPlace} (h : tr enc Tryz.prog w held fuel 48 cs = some x) (hw : WOk Tryz.prog 48 x.1) : ∃ (s : Sl) (xs : List LE), cs = [.slice s.a xs.length s.c] ∧ ES w (Lt w.heap.size) s xs := by
  obtain ⟨n, len, s, b, o, -, hc, hs, hby, he⟩ := trod_rows (e := 64) (C := 7) (B := 104) Tryz.underlying48 cellsOfEntry bytesOfEntry (by decide) h hw
  have hE : ∀ i, i < len → ∃ a : ByteArray × Val × Sl × Sl, (w.cell? ⟨b, o + i * 7, none⟩ = some (.string a.1) ∧ a.1.size ≤ maxLen) ∧ VCells w b (o + i * 7 + 1) a.2.1 a.2.2.1 a.2.2.2 ∧ RV w (Lt w.heap.size) a.2.1 a.2.2.1 a.2.2.2 := fun i hi => by
    obtain ⟨cs', y, hl7, hc, ht, hw⟩ := he i hi
    obtain ⟨n6, rfl, hl, hf⟩ := trod_fields Tryz.underlying64 ht hw
    obtain ⟨z0, g0, -⟩ := hf 0 _ rfl
    obtain ⟨z1, g1, u1⟩ := hf 1 _ rfl
    obtain ⟨k, hk, wk⟩ := trod_s (by kernel_rfl) g0
    have g1' : tr enc Tryz.prog w held n6 34 ((cs'.drop 1).take 6) = some z1 := by
      have := g1
      dsimp only at this
      rw [cellsOfValue] at this
      exact this
    obtain ⟨v, sl, so, hv, hr⟩ := rv_of_trod n6 g1' u1
    have a0 : cs'[0]? = some (.string k) := at_of_take hk (j := 0) (by decide)
    have cj : ∀ j, j < 6 → w.cell? ⟨b, o + i * 7 + 1 + j, none⟩ = (cellsV v sl so)[j]? := fun j hj => by
      rw [← at_of_take hv hj, ← hc (1 + j) (by omega), Nat.add_assoc (o + i * 7)]
    exact ⟨(k, v, sl, so), ⟨(hc 0 (by decide)).trans a0, wk⟩, ⟨cj 0 (by decide), cj 1 (by decide), cj 2 (by decide), cj 3 (by decide), cj 4 (by decide), cj 5 (by decide)⟩, hr⟩
  obtain ⟨f, hf⟩ := skolem hE
  refine ⟨s, (List.range len).map fun j => ⟨(f j).1, (f j).2.1, (f j).2.2.1, (f j).2.2.2⟩, by rw [List.length_map, List.length_range]; exact hc, ?_⟩
  refine ⟨⟨b, o, by rw [List.length_map, List.length_range]; exact hs, flatE_len _, fun j u hj => ?_⟩, fun x hx => ?_, by rw [List.length_map, List.length_range]; omega⟩
  · have hjl : j < len * 7 := by
      have := (List.getElem?_eq_some_iff.1 hj).1
      rw [flatE_len, List.length_map, List.length_range] at this
      exact this
    obtain ⟨i, c, rfl, hc7⟩ : ∃ i c, j = i * 7 + c ∧ c < 7 := ⟨j / 7, j % 7, by omega, by omega⟩
    have hi : i < len := by omega
    have hx : ((List.range len).map fun j => (⟨(f j).1, (f j).2.1, (f j).2.2.1, (f j).2.2.2⟩ : LE))[i]? = some ⟨(f i).1, (f i).2.1, (f i).2.2.1, (f i).2.2.2⟩ := by
      rw [List.getElem?_map, List.getElem?_range hi]; rfl
    rw [flatE_at hx c hc7] at hj
    obtain ⟨⟨a0, -⟩, e, -⟩ := hf i hi
    rw [← Nat.add_assoc]
    have hc7' : c = 0 ∨ c = 1 ∨ c = 2 ∨ c = 3 ∨ c = 4 ∨ c = 5 ∨ c = 6 := by omega
    rcases hc7' with rfl | rfl | rfl | rfl | rfl | rfl | rfl
    · exact a0.trans hj
    · exact e.c0.trans hj
    · exact e.c1.trans hj
    · exact e.c2.trans hj
    · exact e.c3.trans hj
    · exact e.c4.trans hj
    · exact e.c5.trans hj
  · obtain ⟨j, hj⟩ := List.getElem?_of_mem hx
    obtain ⟨h1, rfl⟩ := ofFn_get hj
    exact ⟨(hf j h1).2.2, (hf j h1).1.2⟩
structure LA where
  kd : Int
  k : ByteArray
  v : Val
  sl : Sl
  so : Sl
instance : Inhabited LA := ⟨⟨0, ByteArray.empty, default, Sl.none, Sl.none⟩⟩
end
end Go.Proofs.YtechahocffcbpaaGreatDoor
namespace Go.Proofs.YtechahocffcbpaaGreatDoor
open Go.ChangeShapes Go.WideShapes Go.ChangeAt Go.RowKit
set_option linter.unusedVariables false
theorem trodAll_stays {H : Type} {enc : TypeId × Value → H} {P : Program} (hl : laidOutB P = true) {W W' : World} (hx : Below W.heap.size W W') (sp' : Nat → Bool) :
    ∀ {ts : List TypeId} {vs : List Value} {ds : List (DataW H)} {ps : List MemPlace}, (∀ t ∈ ts, P.readableRec t = true ∧ t < P.types.size) → DataW.TrodAll enc P W 0 (fun _ => true) true ts vs ds ps →
      (∀ p ∈ ps, p.block < W.heap.size) → (∀ p ∈ ps, sp' p.block = true) → DataW.TrodAll enc P W' 0 sp' true ts vs ds ps
  | [], vs, ds, ps, _, h, _, _ => by
    obtain ⟨rfl, rfl, rfl⟩ := trodAll_nil h
    exact rfl
  | t :: ts, vs, ds, ps, hr, h, hb, hs => by
    obtain ⟨v0, vs0, d0, ds0, p0, q0, rfl, rfl, rfl, h0, r0⟩ := trodAll_cons h
    refine ⟨p0, q0, Go.WideElems.Trod_stays hl (hr t (List.mem_cons_self ..)).1 (hr t (List.mem_cons_self ..)).2 h0 (fun p hp => ?_) (fun p hp => hs p (List.mem_append_left _ hp)),
      trodAll_stays hl hx sp' (fun t ht => hr t (List.mem_cons_of_mem _ ht)) r0 (fun p hp => hb p (List.mem_append_right _ hp)) (fun p hp => hs p (List.mem_append_right _ hp)), rfl⟩
    have hlt := hb p (List.mem_append_left _ hp)
    cases p with
    | cell b o => exact hx.cell (p := ⟨b, o, none⟩) hlt
    | map b => exact hx.block b hlt
end Go.Proofs.YtechahocffcbpaaGreatDoor
namespace Go.Proofs.YtechahocffcbpaaGreatDoor
open Go.RowKit
set_option linter.unusedVariables false
set_option linter.unusedSimpArgs false
theorem Wr.cell0 {w w' w'' : World} {row : Option Nat} (h : Wr w' w'' row) (hx : Ext w w') {M : Nat} {o : Nat} (hn : row ≠ some M) (hl : M < w.heap.size) : w''.cell? ⟨M, o, none⟩ = w.cell? ⟨M, o, none⟩ ∧ M < w''.heap.size :=
  ⟨((h.agree (F := fun b => b = M) (fun i hi => by subst hi; exact Nat.lt_of_lt_of_le hl hx.size) (fun k hk e => hn (e ▸ hk))).cell rfl).trans (hx.cell hl), Nat.lt_of_lt_of_le hl (Nat.le_trans hx.size h.grown.size)⟩
section
variable {P : Program} {w : World}
end
end Go.Proofs.YtechahocffcbpaaGreatDoor
