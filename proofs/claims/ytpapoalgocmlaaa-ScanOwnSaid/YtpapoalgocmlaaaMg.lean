/- Texts that were built one by one, under one roof: How many nodes of a tree are none of another one's: the plain law. No program in sight; A range over a function whose iterator hands what it has just made: at each round the body knows what holds of what comes, and in which new memory that lies. No program in sight. -/
import Derived.Test.YtpapoalgocmlaaaMc
import Derived.RangeFuncNested
namespace Go.Proofs.Ytpapoalgocmlaaa
open Go.RowKit
set_option linter.unusedVariables false

/-- The node of height k that a key leads to (or the root, if that is no higher): its block. -/
def findT (key : ByteArray) (k : Nat) : (h : Nat) → PT h → Nat
  | 0, t => addr 0 t
  | h + 1, t => if k < h + 1 then (match t.2[whichK h t.2 key]? with | some kid => findT key k h kid | none => 0) else addr (h + 1) t
/-- Is a node one of a tree's? -/
def hasR (T : RT) (k : Nat) (u : PT k) : Bool := match T with
  | none => false
  | some ⟨h, t⟩ => decide (findT (firstK (ents k u)) k h t = addr k u)
def freshN (has : (k : Nat) → PT k → Bool) : (h : Nat) → PT h → Nat
  | 0, u => if has 0 u then 0 else 1
  | h + 1, u => if has (h + 1) u then 0 else 1 + (u.2.map (freshN has h)).sum
def freshR (T T' : RT) : Nat := match T' with
  | none => 0
  | some ⟨h, u⟩ => freshN (hasR T) h u
/-- Are all nodes below it known? -/
def KnT (has : (k : Nat) → PT k → Bool) : (h : Nat) → PT h → Prop
  | 0, _ => True
  | h + 1, t => ∀ kid ∈ t.2, has h kid = true ∧ KnT has h kid
def innT (has : (k : Nat) → PT k → Bool) : (h : Nat) → PT h → Nat
  | 0, _ => 0
  | h + 1, u => (u.2.map (freshN has h)).sum
section
variable {has : (k : Nat) → PT k → Bool}
theorem fresh_known {h : Nat} {u : PT h} (hu : has h u = true) : freshN has h u = 0 := by
  cases h <;> simp [freshN, hu]
theorem fresh_le : ∀ {h : Nat} {u : PT h}, freshN has h u ≤ 1 + innT has h u
  | 0, u => by simp only [freshN, innT]; split <;> omega
  | h + 1, u => by simp only [freshN, innT]; split <;> omega
theorem sum_zero {α : Type} {f : α → Nat} {l : List α} (h : ∀ x ∈ l, f x = 0) : (l.map f).sum = 0 := by
  induction l with
  | nil => rfl
  | cons a l ih =>
    rw [List.map_cons, List.sum_cons, h a (List.mem_cons_self ..), ih fun x hx => h x (List.mem_cons_of_mem _ hx)]
theorem sum_app {α : Type} {f : α → Nat} (l m : List α) : ((l ++ m).map f).sum = (l.map f).sum + (m.map f).sum := by
  rw [List.map_append, List.sum_append]
theorem fresh_ts {h : Nat} : ∀ (ts : List (PT (h + 1))), (ts.map (freshN has (h + 1))).sum ≤ ts.length + (((ts.map Prod.snd).flatten : List (PT h)).map (freshN has h)).sum
  | [] => by simp
  | t :: ts => by
    have ih := fresh_ts ts
    have h1 : freshN has (h + 1) t ≤ 1 + (t.2.map (freshN has h)).sum := fresh_le
    show freshN has (h + 1) t + (ts.map (freshN has (h + 1))).sum ≤ (ts.length + 1) + ((t.2 ++ ((ts.map Prod.snd).flatten : List (PT h))).map (freshN has h)).sum
    rw [sum_app]
    omega
theorem fresh_ts0 : ∀ (ts : List (PT 0)), (ts.map (freshN has 0)).sum ≤ ts.length
  | [] => by simp
  | t :: ts => by
    have ih := fresh_ts0 ts
    have h1 : freshN has 0 t ≤ 1 := by simp only [freshN]; split <;> omega
    rw [List.map_cons, List.sum_cons, List.length_cons]
    omega
theorem two_len {α : Type} {ts : List α} (h : (∃ a, ts = [a]) ∨ ∃ a b, ts = [a, b]) : ts.length ≤ 2 := by
  rcases h with ⟨a, rfl⟩ | ⟨a, b, rfl⟩ <;> simp
theorem known_zero {h : Nat} {l : List (PT h)} (hk : ∀ x ∈ l, has h x = true) : (l.map (freshN has h)).sum = 0 := sum_zero fun x hx => fresh_known (hk x hx)
theorem with_fresh {B : Nat} {k : ByteArray} {v : Val} : ∀ {h : Nat} {t : PT h} {ts : List (PT h)}, WithR B k v h t ts → KnT has h t → (ts.map (freshN has h)).sum ≤ 2 * (h + 1)
  | 0, t, ts, hw, _ => by
    have h1 := fresh_ts0 (has := has) ts
    have h2 := two_len hw.two
    omega
  | h + 1, t, ts, hw, hk => by
    have h2 := two_len hw.two
    have h1 := fresh_ts (has := has) ts
    obtain ⟨kid, rs, hkid, hr, h3, -⟩ := hw
    have ih := with_fresh hr (hk kid (List.mem_of_getElem? hkid)).2
    rw [h3, chunk_flat, sum_app, sum_app, known_zero fun x hx => (hk x (List.mem_of_mem_take hx)).1, known_zero fun x hx => (hk x (List.mem_of_mem_drop hx)).1] at h1
    omega
theorem inn_known {h : Nat} {t : PT h} (hk : KnT has h t) : innT has h t = 0 := by
  cases h with
  | zero => rfl
  | succ h => exact known_zero fun x hx => (hk x hx).1
theorem pair_fresh {B : Nat} : ∀ {h : Nat} {l r : PT h} {ts : List (PT h)}, PairR B h l r ts → (ts.map (freshN has h)).sum ≤ 2 + innT has h l + innT has h r
  | 0, l, r, ts, hp => by
    have h1 := fresh_ts0 (has := has) ts
    have h2 := hp.len
    omega
  | h + 1, l, r, ts, hp => by
    have h2 := hp.len
    have h1 := fresh_ts (has := has) ts
    rw [hp.1, pairL_flat, sum_app] at h1
    have e1 : innT has (h + 1) l = (l.2.map (freshN has h)).sum := rfl
    have e2 : innT has (h + 1) r = (r.2.map (freshN has h)).sum := rfl
    omega
theorem set_get {α : Type} {l : List α} {i j : Nat} {y x : α} (h : (l.set i y)[j]? = some x) : (j = i ∧ x = y) ∨ x ∈ l := by
  by_cases e : i = j
  · subst e
    have hi : i < l.length := by
      have := (List.getElem?_eq_some_iff.1 h).1
      rwa [List.length_set] at this
    rw [List.getElem?_set_self hi] at h
    exact .inl ⟨rfl, by simpa using h.symm⟩
  · rw [List.getElem?_set_ne e] at h
    exact .inr (List.mem_of_getElem? h)
theorem delK_fresh {B : Nat} {k : ByteArray} {h n : Nat} {R : PT h → PT h → Prop} {ks ks' : List (PT h)} (hd : DelK B k h R ks ks') (hk : ∀ x ∈ ks, has h x = true ∧ KnT has h x) (hR : ∀ x y, x ∈ ks → R x y → innT has h y ≤ n) : (ks'.map (freshN has h)).sum ≤ 2 + n := by
  obtain ⟨kid, kid', hkid, hr, h3⟩ := hd
  have hin := hR kid kid' (List.mem_of_getElem? hkid) hr
  rcases h3 with ⟨-, rfl⟩ | ⟨-, l, r, ts, hl, hr', hp, rfl⟩
  · rw [set_mid hkid, sum_app, known_zero fun x hx => (hk x (List.mem_of_mem_take hx)).1, List.map_cons, List.sum_cons, known_zero fun x hx => (hk x (List.mem_of_mem_drop hx)).1]
    have := fresh_le (has := has) (u := kid')
    omega
  · generalize whichK h ks k = i at *
    have h0 : ((ks.set i kid').take (i - 1)).map (freshN has h) = (ks.take (i - 1)).map (freshN has h) := by
      rw [List.take_set, List.set_eq_of_length_le (by rw [List.length_take]; omega)]
    have h1 : ((ks.set i kid').drop (i - 1 + 2)).map (freshN has h) = (ks.drop (i - 1 + 2)).map (freshN has h) := by
      rw [List.drop_set, if_pos (by omega)]
    have hpf := pair_fresh (has := has) hp
    rw [sum_app, sum_app, h0, h1, known_zero fun x hx => (hk x (List.mem_of_mem_take hx)).1, known_zero fun x hx => (hk x (List.mem_of_mem_drop hx)).1]
    rcases set_get hl with ⟨e, rfl⟩ | hlm
    · rcases set_get hr' with ⟨e', -⟩ | hrm
      · omega
      · have := inn_known (hk r hrm).2
        omega
    · have h5 := inn_known (hk l hlm).2
      rcases set_get hr' with ⟨e', rfl⟩ | hrm
      · omega
      · have := inn_known (hk r hrm).2
        omega
theorem del_inn {B : Nat} {k : ByteArray} : ∀ {h : Nat} {t u : PT h}, DelR B k h t u → KnT has h t → innT has h u ≤ 2 * h
  | 0, t, u, _, _ => Nat.le_refl _
  | h + 1, t, u, hd, hk => by
    have := delK_fresh (has := has) (n := 2 * h) hd.1 hk fun x y hx hr => del_inn hr (hk x hx).2
    show (u.2.map (freshN has h)).sum ≤ _
    omega
end

/-- The nodes of a tree lie in blocks of p. -/
def AllA (p : Nat → Prop) : (h : Nat) → PT h → Prop
  | 0, t => p (addr 0 t)
  | h + 1, t => p (addr (h + 1) t) ∧ ∀ kid ∈ t.2, AllA p h kid
theorem AllA.addr {p : Nat → Prop} : ∀ {h : Nat} {t : PT h}, AllA p h t → p (Proofs.Ytpapoalgocmlaaa.addr h t)
  | 0, _, h => h
  | _ + 1, _, h => h.1
theorem find_in {p : Nat → Prop} {key : ByteArray} {k : Nat} : ∀ {h : Nat} {t : PT h}, AllA p h t → OkT h t → p (findT key k h t)
  | 0, t, ha, _ => ha
  | h + 1, t, ha, ok => by
    simp only [findT]
    split
    · have hlt : whichK h t.2 key < t.2.length := by
        have := posK_le h t.2 key
        have := ok.1
        unfold whichK; omega
      rw [List.getElem?_eq_getElem hlt]
      exact find_in (ha.2 _ (List.getElem_mem hlt)) (ok.2.2 _ (List.getElem_mem hlt)).1
    · exact ha.1
/-- The subtrees of a tree. -/
def Sub (k : Nat) (u : PT k) : (h : Nat) → PT h → Prop
  | 0, t => (⟨k, u⟩ : Σ h, PT h) = ⟨0, t⟩
  | h + 1, t => (⟨k, u⟩ : Σ h, PT h) = ⟨h + 1, t⟩ ∨ ∃ kid ∈ t.2, Sub k u h kid
theorem Sub.refl {k : Nat} (u : PT k) : Sub k u k u := by
  cases k with
  | zero => exact rfl
  | succ k => exact .inl rfl
theorem Sub.le {k : Nat} {u : PT k} : ∀ {h : Nat} {t : PT h}, Sub k u h t → k ≤ h
  | 0, t, hs => by
    have : k = 0 := congrArg Sigma.fst hs
    omega
  | h + 1, t, hs => by
    rcases hs with e | ⟨kid, -, hs⟩
    · have : k = h + 1 := congrArg Sigma.fst e
      omega
    · have := hs.le
      omega
theorem Sub.kid {k : Nat} {u : PT (k + 1)} {c : PT k} (hc : c ∈ u.2) : ∀ {h : Nat} {t : PT h}, Sub (k + 1) u h t → Sub k c h t
  | 0, t, hs => by
    have : k + 1 = 0 := congrArg Sigma.fst hs
    omega
  | h + 1, t, hs => by
    rcases hs with e | ⟨kid, hm, hs⟩
    · have e1 : k + 1 = h + 1 := congrArg Sigma.fst e
      obtain rfl : k = h := by omega
      cases e
      exact .inr ⟨c, hc, Sub.refl c⟩
    · exact .inr ⟨kid, hm, hs.kid hc⟩
theorem Sub.ents {k : Nat} {u : PT k} : ∀ {h : Nat} {t : PT h}, Sub k u h t → ∀ e ∈ Proofs.Ytpapoalgocmlaaa.ents k u, e ∈ Proofs.Ytpapoalgocmlaaa.ents h t
  | 0, t, hs, e, he => by cases hs; exact he
  | h + 1, t, hs, e, he => by
    rcases hs with e1 | ⟨kid, hm, hs⟩
    · cases e1; exact he
    · exact List.mem_flatMap.2 ⟨kid, hm, hs.ents e he⟩
theorem whichK_of {h : Nat} {ks : List (PT h)} (hs : Sorted (ks.flatMap (ents h))) (hp : ∀ k ∈ ks, 0 < (ents h k).length) {i : Nat} {x : PT h} (hx : ks[i]? = some x) {e : Ent} (he : e ∈ ents h x) : whichK h ks e.1 = i := by
  have hil := (List.getElem?_eq_some_iff.1 hx).1
  have hpos : posK h ks e.1 = i + 1 := posK_of hil (fun j t hj ht => by
    obtain ⟨a, ha, ea⟩ := firstK_mem (hp t (List.mem_of_getElem? ht))
    rw [ea]
    rcases Nat.lt_or_ge j i with hji | hji
    · exact klt_asymm (kids_lt hs hji ht hx a ha e he)
    · obtain rfl : j = i := by omega
      rw [hx] at ht
      obtain rfl : x = t := by simpa using ht
      rw [← ea]
      exact firstK_le (kid_sorted hs x (List.mem_of_getElem? hx)) he) (fun t ht => by
    obtain ⟨a, ha, ea⟩ := firstK_mem (hp t (List.mem_of_getElem? ht))
    rw [ea]
    exact kids_lt hs (Nat.lt_succ_self i) hx ht e he a ha)
  unfold whichK
  omega
/-- A subtree is found by its first key. -/
theorem Sub.found {k : Nat} {u : PT k} (hu : 0 < (Proofs.Ytpapoalgocmlaaa.ents k u).length) : ∀ {h : Nat} {t : PT h}, Sub k u h t → OkT h t → Sorted (Proofs.Ytpapoalgocmlaaa.ents h t) → findT (firstK (Proofs.Ytpapoalgocmlaaa.ents k u)) k h t = Proofs.Ytpapoalgocmlaaa.addr k u
  | 0, t, hs, _, _ => by cases hs; rfl
  | h + 1, t, hs, ok, hso => by
    rcases hs with e | ⟨kid, hm, hs⟩
    · cases e
      simp only [findT]
      rw [if_neg (by omega)]
    · have hle := hs.le
      simp only [findT]
      rw [if_pos (by omega)]
      obtain ⟨e, he, hf⟩ := firstK_mem hu
      obtain ⟨i, hi⟩ := List.getElem?_of_mem hm
      rw [hf, whichK_of hso (kids_pos ok) hi (hs.ents e he), hi, ← hf]
      exact hs.found hu (ok.2.2 kid hm).1 (kid_sorted hso kid hm)
theorem known_sub {T : RT} {H : Nat} {t0 : PT H} (hT : T = some ⟨H, t0⟩) (ok0 : OkT H t0) (hs0 : Sorted (ents H t0)) : ∀ {h : Nat} {t : PT h}, Sub h t H t0 → OkT h t → KnT (hasR T) h t
  | 0, _, _, _ => trivial
  | h + 1, t, hs, ok => fun kid hkid => by
    have hk := hs.kid hkid
    have hp := kids_pos ok kid hkid
    refine ⟨?_, known_sub hT ok0 hs0 hk (ok.2.2 kid hkid).1⟩
    subst hT
    simp only [hasR, decide_eq_true_eq]
    exact hk.found hp ok0 hs0
theorem has_self {h : Nat} {t : PT h} (ok : OkR (some ⟨h, t⟩)) : hasR (some ⟨h, t⟩) h t = true := by
  simp only [hasR, decide_eq_true_eq]
  exact (Sub.refl t).found (ents_pos h t ok.1 ok.2.1) ok.1 ok.2.2
theorem fresh_self {T : RT} (ok : OkR T) : freshR T T = 0 := by
  match T, ok with
  | none, _ => rfl
  | some ⟨h, t⟩, ok => exact fresh_known (has_self ok)
def heightT : RT → Nat
  | none => 0
  | some ⟨h, _⟩ => h
theorem put_fresh {B : Nat} {k : ByteArray} {v : Val} {T T' : RT} (hp : PutR B k v T T') (ok : OkR T) : freshR T T' ≤ 2 * max (heightT T) (heightT T') + 3 := by
  have hw : ∀ {h : Nat} {ts : List (PT h)}, WithRT B k v T h ts → (ts.map (freshN (hasR T) h)).sum ≤ 2 * (h + 1) := fun hw => by
    cases hw with
    | none u hu hb =>
      have := fresh_ts0 (has := hasR none) [u]
      simp only [List.length_singleton] at this
      omega
    | some hw => exact with_fresh hw (known_sub rfl ok.1 ok.2.2 (Sub.refl _) ok.1)
  cases hp with
  | one h1 =>
    rename_i h a
    have := hw h1
    rw [List.map_singleton, List.sum_singleton] at this
    show freshN (hasR T) h a ≤ 2 * max (heightT T) h + 3
    omega
  | two h1 hc hb =>
    rename_i h a b c
    have h2 := hw h1
    have h3 : freshN (hasR T) (h + 1) c ≤ 1 + (c.2.map (freshN (hasR T) h)).sum := fresh_le
    rw [hc] at h3
    show freshN (hasR T) (h + 1) c ≤ 2 * max (heightT T) (h + 1) + 3
    omega
theorem del_fresh {B : Nat} {k : ByteArray} {T T' : RT} (hd : DelT B k T T') (ok : OkR T) : freshR T T' ≤ 2 * max (heightT T) (heightT T') + 3 := by
  cases hd with
  | no h => rw [fresh_self ok]; omega
  | same hg hd hp h2 =>
    rename_i h t u
    have h1 := del_inn (has := hasR (some ⟨h, t⟩)) hd (known_sub rfl ok.1 ok.2.2 (Sub.refl _) ok.1)
    have h3 := fresh_le (has := hasR (some ⟨h, t⟩)) (u := u)
    show freshN _ h u ≤ 2 * max h h + 3
    omega
  | gone hg hd h0 => exact Nat.zero_le _
  | down hg hd =>
    rename_i h t u
    have h1 := delK_fresh (has := hasR (some ⟨h + 1, t⟩)) (n := 2 * h) hd (known_sub (h := h + 1) rfl ok.1 ok.2.2 (Sub.refl _) ok.1) fun x y hx hr => del_inn hr ((known_sub (h := h + 1) rfl ok.1 ok.2.2 (Sub.refl _) ok.1) x hx).2
    rw [List.map_singleton, List.sum_singleton] at h1
    show freshN _ h u ≤ 2 * max (h + 1) h + 3
    omega
/-- A root that is new is none of the elder tree's. -/
theorem new_fresh {B : Nat} {T : RT} {h : Nat} {u : PT h} (ha : ∀ H t, T = some ⟨H, t⟩ → AllA (· < B) H t) (ok : OkR T) (hu : B ≤ addr h u) : 1 ≤ freshR T (some ⟨h, u⟩) := by
  have hf : hasR T h u = false := by
    match T, ha, ok with
    | none, _, _ => rfl
    | some ⟨H, t⟩, ha, ok =>
      simp only [hasR, decide_eq_false_iff_not]
      have := find_in (key := firstK (ents h u)) (k := h) (ha H t rfl) ok.1
      omega
  show 1 ≤ freshN (hasR T) h u
  cases h <;> simp [freshN, hf]
end Go.Proofs.Ytpapoalgocmlaaa
namespace Go.Proofs.Ytpapoalgocmlaaa
open Go.RowKit
set_option linter.unusedVariables false

/-- The contract of an iterator value. J: between two rounds; W0: the world behind the last round; W1: that of the call of yield. -/
def SeqG {α : Type} (F : Fence) (n : Nat) (P : Program) (g : Nat) (lb : Array Value) (encs : α → Array Value) (Kp : World → World → Prop) (G : α → World → World → Prop) (S Sp : List α → Prop) (w : World) : Prop :=
  ∀ (l : Nat) (J Jx : List α → World → Prop) (W : World), Kp w W →
    (∀ pre x W0 W1, J pre W0 → Ext W0 W1 → Kp w W1 → G x W0 W1 → YieldAt F (n - 1) P l (encs x) W1 fun e W' =>
      (e = .returned (.bool true) ∧ J (pre ++ [x]) W' ∧ Kp W1 W') ∨ (e = .returned (.bool false) ∧ Jx (pre ++ [x]) W')) →
    J [] W →
    CallsIn F n P g (#[.func (.yield l) #[] #[]] ++ lb) W fun e W' => (∃ v, e = .returned v) ∧ ((∃ xs W0, S xs ∧ J xs W0 ∧ Ext W0 W') ∨ (∃ pre W0, Sp pre ∧ Jx pre W0 ∧ Ext W0 W'))

theorem ext_obj (w : World) (o : Obj) (h : ∀ (W : World) (i j : Nat), W.heap[i]? = some o → W.frozen? ⟨i, j, none⟩ = false) : Ext w (w.alloc o) := by
  refine ⟨(Below.refl _ _).alloc (Nat.le_refl _) _, fun b j hb => ?_⟩
  by_cases hb' : b = w.heap.size
  · subst hb'
    exact h _ _ _ (World.alloc_heap_new w o)
  · exact frozen_none (by simp; omega)
/-- What the law itself turns: a block from B on that holds no cells. -/
structure Turned (B : Nat) (W W' : World) : Prop where
  os : W'.os = W.os
  tape : W'.tape = W.tape
  output : W'.output = W.output
  size : W'.heap.size = W.heap.size
  block : ∀ b, (b < B ∨ ∃ o, W.heap[b]? = some o ∧ o.isCells = true) → W'.heap[b]? = W.heap[b]?
  fz : ∀ b o, W'.frozen? ⟨b, o, none⟩ = W.frozen? ⟨b, o, none⟩
theorem Turned.put {B l : Nat} {W : World} {o o' : Obj} (hl : B ≤ l) (h : W.heap[l]? = some o) (hc : o.isCells = false) (hc' : o'.isCells = false) : Turned B W (W.putObj l o') := by
  refine ⟨rfl, rfl, rfl, by simp, fun b hb => World.putObj_heap_other ?_, fun b j => ?_⟩
  · rintro rfl
    rcases hb with hb | ⟨o2, h2, h3⟩
    · omega
    · rw [h] at h2; cases h2; rw [hc] at h3; cases h3
  · by_cases e : b = l
    · subst e
      have h1 : (W.putObj b o').heap[b]? = some o' := World.putObj_heap_same (Array.getElem?_eq_some_iff.1 h).1
      unfold World.frozen?
      simp only [h1, h]
      cases o <;> cases o' <;> first | rfl | (simp [Obj.isCells] at hc; done) | (simp [Obj.isCells] at hc'; done)
    · exact World.frozen?_of_block (a := ⟨b, j, none⟩) (World.putObj_heap_other e)
theorem wpIn_rangeG {α : Type} {F : Fence} {n : Nat} {P : Program} {g : Operand} {ps : Array Tmp} {assign body : Code} {Q : Exit → Act → World → Prop} {a : Act} {w : World}
    (hro : F.round = none) (h1 : 1 ≤ n) {gf : Nat} {lb : Array Value} (hg : a.eval g = .func (.func gf) #[] lb) (hFg : F.fn gf) (eg : ∀ args w, (callFunc gf args).run P w = .ok (.enter gf args) w)
    {encs : α → Array Value} {Kp : World → World → Prop} {G : α → World → World → Prop} {S Sp : List α → Prop} {w0 : World} (hseq : SeqG F (n - 1) P gf lb encs Kp G S Sp w0)
    (hKt : ∀ {A B C : World}, Kp A B → Kp B C → Kp A C) (hKe : ∀ {A B : World}, w0.heap.size ≤ A.heap.size → Ext A B → Kp A B) (hKb : ∀ {A B : World}, Turned w.heap.size A B → Kp A B) (hb0 : Kp w0 w) (hsz : w0.heap.size ≤ w.heap.size) (hps : ∀ x, (encs x).size = ps.size)
    (I : List α → World → Prop) (Ix : Code → List α → World → Prop) (hI : ∀ {s W W'}, I s W → Ext W W' → I s W') (hIx : ∀ {c s W W'}, Ix c s W → Ext W W' → Ix c s W') (hIb : ∀ {s W W'}, I s W → Turned w.heap.size W W' → I s W') (hIxb : ∀ {c s W W'}, Ix c s W → Turned w.heap.size W W' → Ix c s W') (h0 : I [] w)
    (hround : ∀ (l : Nat) (pre : List α) (x : α) (W0 W1 : World), w.heap.size ≤ l → I pre W0 → Ext W0 W1 → Kp w0 W1 → G x W0 W1 →
      assign.wpIn (F.inRound l) (n - 1 - 1) P (Exit.then (fun a1 W2 => KeepsOthers W1 W2 ∧ Kp W1 W2 ∧ ∀ W3, Turned w.heap.size W2 W3 → body.wpIn (F.inRound l) (n - 1 - 1) P (ownPostK Kp I Ix (pre ++ [x]) W3) a1 W3) (fun _ _ _ => False))
        { tmps := (ps.zip (encs x)).foldl (fun t (p, v) => t.setIfInBounds p v) a.tmps, defers := [] } W1)
    (hdone : ∀ (D : Nat) (xs : List α) (W : World), w.heap.size ≤ D → S xs → I xs W → W.heap[D]? = some (.deferred (some [])) → Q .normal { a with defers := { target := .collected D, args := #[] } :: a.defers } W)
    (hstop : ∀ (D : Nat) (c : Code) (pre : List α) (W : World), w.heap.size ≤ D → Sp pre → Ix c pre W → W.heap[D]? = some (.deferred (some [])) → c.wpIn F n P Q { a with defers := { target := .collected D, args := #[] } :: a.defers } W) :
    (Code.rangeFunc g ps assign body).wpIn F n P Q a w := by
  refine wpIn_rangeFunc fun fn hfn => ?_
  rw [hro]
  -- the loop's record at each of its states; where it lies, and the block of the rounds' deferred calls
  let rec_ : LoopState → Option Code → Obj := fun st pe => .loop { state := st, pending := pe, fn, tmps := a.tmps, params := ps, assign, body, defers := w.heap.size }
  let BK : LoopState → Option Code → World → Prop := fun st pe W => W.heap[w.heap.size + 1]? = some (rec_ st pe) ∧ W.heap[w.heap.size]? = some (.deferred (some []))
  have bkE : ∀ {st pe W W'}, BK st pe W → Ext W W' → BK st pe W' := fun h he => ⟨(he.heap (Array.getElem?_eq_some_iff.1 h.1).1).trans h.1, (he.heap (Array.getElem?_eq_some_iff.1 h.2).1).trans h.2⟩
  have bkK : ∀ {st pe W W'}, BK st pe W → KeepsOthers W W' → BK st pe W' := fun h hk => ⟨hk.same _ _ h.1 rfl, hk.same _ _ h.2 rfl⟩
  have bkP : ∀ {st pe W} (st' : LoopState) (pe' : Option Code), BK st pe W → BK st' pe' (W.putObj (w.heap.size + 1) (rec_ st' pe')) ∧ Turned w.heap.size W (W.putObj (w.heap.size + 1) (rec_ st' pe')) := fun st' pe' h =>
    ⟨⟨World.putObj_heap_same (Array.getElem?_eq_some_iff.1 h.1).1, (World.putObj_heap_other (by omega)).trans h.2⟩, Turned.put (by omega) h.1 rfl rfl⟩
  have e1 : Ext w (w.alloc (.deferred (some []))) := ext_obj w _ fun W i j h => by simp [World.frozen?, h]
  have e2 : Ext (w.alloc (.deferred (some []))) ((w.alloc (.deferred (some []))).alloc (rec_ .ready none)) := ext_obj _ _ fun W i j h => by simp [World.frozen?, h, rec_]
  have hrun := run_enterLoop_outer (P := P) (w := w) fn a.tmps ps assign body
  have bk1 : BK .ready none ((w.alloc (.deferred (some []))).alloc (rec_ .ready none)) :=
    ⟨by have := World.alloc_heap_new (w.alloc (.deferred (some []))) (rec_ .ready none); rwa [World.size_alloc] at this, (Below.heap_alloc _ _ _ (by simp)).trans (World.alloc_heap_new w _)⟩
  have eW := e1.trans e2
  change _ = Result.ok _ ((w.alloc (.deferred (some []))).alloc (rec_ .ready none)) at hrun
  generalize (w.alloc (.deferred (some []))).alloc (rec_ .ready none) = W1 at *
  refine ⟨w.heap.size + 1, _, W1, { target := .fn (.func gf) lb, args := #[.func (.yield (w.heap.size + 1)) #[] #[]] }, W1, gf, #[.func (.yield (w.heap.size + 1)) #[] #[]] ++ lb, W1, hrun, ?_, ?_, ?_, fun _ => h1, ?_⟩
  · simp only [resolve, hg]
    simp [go_sem]
  · intro f' hf'; simp [Target.leads] at hf'; subst hf'; exact hFg
  · simp [invoke, go_sem, eg]
  refine (hseq (w.heap.size + 1) (fun pre W => I pre W ∧ BK .ready none W) (fun pre W => ∃ c, Ix c pre W ∧ BK .done (some c) W) W1 (hKt hb0 (hKe hsz eW)) ?_ ⟨hI h0 eW, bk1⟩).mono ?_
  · rintro pre x W0 Wy ⟨hi, hbk⟩ hx hkp hgd
    have hbk1 := bkE hbk hx
    refine ⟨fn, _, assign, body, run_yield (args := encs x) hbk1.1 (hps x), roundIn_of_wpIn hfn (wpIn_mono (hround _ pre x W0 Wy (by omega) hi hx hkp hgd) ?_)⟩
    rintro e a3 W2 hp
    cases e with
    | normal =>
      obtain ⟨hk2, hkp2, hb⟩ := hp
      have hbk2 := bkK hbk1 hk2
      obtain ⟨hbk3, ht3⟩ := bkP .busy none hbk2
      refine ⟨_, run_beginRound hbk2.1 rfl, wpIn_mono (hb _ ht3) ?_⟩
      rintro e a4 W4 hq
      cases e with
      | normal =>
        obtain ⟨hk4, hkp4, hi4⟩ := hq
        have hbk4 := bkK hbk3 hk4
        obtain ⟨hbk5, ht5⟩ := bkP .ready none hbk4
        exact ⟨_, _, run_endRound none hbk4.1, .inl ⟨rfl, ⟨hIb hi4 ht5, hbk5⟩, hKt (hKt (hKt hkp2 (hKb ht3)) hkp4) (hKb ht5)⟩⟩
      | ret =>
        have hbk4 := bkK hbk3 hq.1
        obtain ⟨hbk5, ht5⟩ := bkP .done (some .ret) hbk4
        exact ⟨_, _, run_endRound (some .ret) hbk4.1, .inr ⟨rfl, .ret, hIxb hq.2 ht5, hbk5⟩⟩
      | exit id =>
        have hbk4 := bkK hbk3 hq.1
        obtain ⟨hbk5, ht5⟩ := bkP .done (some (.exit id)) hbk4
        exact ⟨_, _, run_endRound (some (.exit id)) hbk4.1, .inr ⟨rfl, .exit id, hIxb hq.2 ht5, hbk5⟩⟩
      | goto t =>
        have hbk4 := bkK hbk3 hq.1
        obtain ⟨hbk5, ht5⟩ := bkP .done (some (.goto t)) hbk4
        exact ⟨_, _, run_endRound (some (.goto t)) hbk4.1, .inr ⟨rfl, .goto t, hIxb hq.2 ht5, hbk5⟩⟩
      | panic ch => exact hq.elim
      | outgrown => exact hq.elim
    | ret => exact hp.elim
    | exit id => exact hp.elim
    | goto t => exact hp.elim
    | panic ch => exact hp.elim
    | outgrown => exact hp.elim
  · rintro e W2 ⟨⟨v, rfl⟩, (⟨xs, W0, hS, ⟨hi, hbk⟩, hx⟩ | ⟨pre, W0, hSp, ⟨c, hi, hbk⟩, hx⟩)⟩
    · have hbk2 := bkE hbk hx
      obtain ⟨hbk5, ht5⟩ := bkP .exhausted none hbk2
      exact ⟨none, _, run_endLoop hbk2.1 (by simp), hdone _ xs _ (Nat.le_refl _) hS (hIb (hI hi hx) ht5) hbk5.2⟩
    · have hbk2 := bkE hbk hx
      obtain ⟨hbk5, ht5⟩ := bkP .exhausted (some c) hbk2
      exact ⟨some c, _, run_endLoop hbk2.1 (by simp), hstop _ c pre _ (Nat.le_refl _) hSp (hIxb (hIx hi hx) ht5) hbk5.2⟩
end Go.Proofs.Ytpapoalgocmlaaa
