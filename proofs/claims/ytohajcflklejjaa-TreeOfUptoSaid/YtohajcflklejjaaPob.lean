/- What the theorem needs of the texts Mb: no condition of its own. -/
import Derived.Test.YtohajcflklejjaaPoa
namespace Go.Proofs.Ytohajcflklejjaa
open Go.RowKit
set_option linter.unusedVariables false
def posK (h : Nat) (ks : List (PT h)) (k : ByteArray) : Nat := (ks.takeWhile fun t => !(klt k (firstK (ents h t)))).length
def whichK (h : Nat) (ks : List (PT h)) (k : ByteArray) : Nat := posK h ks k - 1
theorem posK_of {h : Nat} {ks : List (PT h)} {k : ByteArray} {p : Nat} (hp : p ≤ ks.length) (hlo : ∀ i t, i < p → ks[i]? = some t → klt k (firstK (ents h t)) = false) (hhi : ∀ t, ks[p]? = some t → klt k (firstK (ents h t)) = true) : posK h ks k = p := by
  induction ks generalizing p with
  | nil => simp at hp; subst hp; rfl
  | cons a ks ih =>
    cases p with
    | zero => simp [posK, hhi a rfl]
    | succ p =>
      have h0 := hlo 0 a (by omega) rfl
      have := ih (p := p) (by simpa using hp) (fun i e hi he => hlo (i + 1) e (by omega) (by simpa using he)) (fun e he => hhi e (by simpa using he))
      simp only [posK, List.takeWhile_cons, h0, Bool.not_false, if_true, List.length_cons]
      rw [← this]; rfl
theorem posK_le (h : Nat) (ks : List (PT h)) (k : ByteArray) : posK h ks k ≤ ks.length := (List.takeWhile_sublist _).length_le
theorem firstK_mem {es : List Ent} (h : 0 < es.length) : ∃ e ∈ es, firstK es = e.1 := by
  cases es with
  | nil => simp at h
  | cons x xs => exact ⟨x, List.mem_cons_self .., rfl⟩
theorem lastK_mem {es : List Ent} (h : 0 < es.length) : ∃ e ∈ es, lastK es = e.1 := by
  cases hl : es.getLast? with
  | none => rw [List.getLast?_eq_none_iff.1 hl] at h; simp at h
  | some x => exact ⟨x, List.mem_of_getLast? hl, by simp [lastK, hl]⟩
theorem kids_lt {h : Nat} : ∀ {ks : List (PT h)}, Sorted (ks.flatMap (ents h)) → ∀ {i j : Nat} {x y : PT h}, i < j → ks[i]? = some x → ks[j]? = some y → ∀ a ∈ ents h x, ∀ b ∈ ents h y, klt a.1 b.1 = true
  | [], _, i, j, x, y, _, hx, _ => by simp at hx
  | t :: ts, hs, 0, 0, x, y, hij, hx, hy => by omega
  | t :: ts, hs, 0, j + 1, x, y, hij, hx, hy => by
    simp at hx hy; subst hx
    intro a ha b hb
    have hs : (ents h t ++ ts.flatMap (ents h)).Pairwise fun a b => klt a.1 b.1 = true := hs
    exact (List.pairwise_append.1 hs).2.2 a ha b (List.mem_flatMap.2 ⟨y, List.mem_of_getElem? hy, hb⟩)
  | t :: ts, hs, i + 1, 0, x, y, hij, hx, hy => by omega
  | t :: ts, hs, i + 1, j + 1, x, y, hij, hx, hy => by
    simp at hx hy
    have hs : (ents h t ++ ts.flatMap (ents h)).Pairwise fun a b => klt a.1 b.1 = true := hs
    exact kids_lt (List.pairwise_append.1 hs).2.1 (Nat.lt_of_succ_lt_succ hij) hx hy
theorem kid_sorted {h : Nat} : ∀ {ks : List (PT h)}, Sorted (ks.flatMap (ents h)) → ∀ x ∈ ks, Sorted (ents h x)
  | t :: ts, hs, x, hx => by
    have hs : (ents h t ++ ts.flatMap (ents h)).Pairwise fun a b => klt a.1 b.1 = true := hs
    rcases List.mem_cons.1 hx with rfl | hx
    · exact (List.pairwise_append.1 hs).1
    · exact kid_sorted (List.pairwise_append.1 hs).2.1 x hx
theorem firsts_rise {h : Nat} {ks : List (PT h)} (hs : Sorted (ks.flatMap (ents h))) (hp : ∀ k ∈ ks, 0 < (ents h k).length) {i j : Nat} {x y : PT h} (hij : i < j) (hx : ks[i]? = some x) (hy : ks[j]? = some y) : klt (firstK (ents h x)) (firstK (ents h y)) = true := by
  obtain ⟨a, ha, ea⟩ := firstK_mem (hp x (List.mem_of_getElem? hx))
  obtain ⟨b, hb, eb⟩ := firstK_mem (hp y (List.mem_of_getElem? hy))
  rw [ea, eb]
  exact kids_lt hs hij hx hy a ha b hb
theorem rising_of {h : Nat} {ks : List (PT h)} (hs : Sorted (ks.flatMap (ents h))) (hp : ∀ k ∈ ks, 0 < (ents h k).length) : risingK h ks := fun i x y hx hy => by
  obtain ⟨a, ha, ea⟩ := lastK_mem (hp x (List.mem_of_getElem? hx))
  obtain ⟨b, hb, eb⟩ := firstK_mem (hp y (List.mem_of_getElem? hy))
  rw [ea, eb]
  exact kids_lt hs (Nat.lt_succ_self i) hx hy a ha b hb
theorem which1_any {w W : World} {F : Nat → Prop} {h : Nat} {s : Sl} {ks : List (PT h)} (hs : Rd w (Lt w.heap.size) 1 s ks.length (ptrs h ks)) (hk : ∀ k ∈ ks, IsN w F h k) (hF : ∀ b, F b → b < w.heap.size) {k : ByteArray} {b1 b2 : Nat} (h1 : W.cell? ⟨b1, 0, none⟩ = some (.slice s.a ks.length s.c)) (h2 : W.cell? ⟨b2, 0, none⟩ = some (.string k)) (hx : Ext w W) (hn : ks.length ≤ 1000)
    {i : Nat} {x : PT h} (hi : ks[i]? = some x) : Calls Try.prog 68 #[.int .i64 i, .pointer (some ⟨b1, 0, none⟩), .pointer (some ⟨b2, 0, none⟩)] W fun e w' => e = .returned (.bool (klt k (firstK (ents h x)))) ∧ Ext W w' := by
  obtain ⟨b, o, ha, hbo, hlc, hcm, hk0⟩ := hs.ptr_at hi
  have hk := (hk x (List.mem_of_getElem? hi)).agree (hx.agree hF)
  have hc : W.cell? ⟨b, o + i, none⟩ = some (ptr h x) := (hx.cell hbo).trans hk0
  have hil : i < ks.length := (List.getElem?_eq_some_iff.1 hi).1
  have hil' : (i : Int) < (ks.length : Int) := by omega
  have hcf := fun q => first_any (w := W.drewN q) (hk.agree (Agree.drewN W q))
  have HC := Lib.hid hcf
  rw [ha] at h1
  clear hs hi hx ha hk0 hcf hk
  go_enter Try.func68, Try.ntmps68
  go_wp2_with fail
  go_quiet ((go_at_call 69; refine (HC.out _).mono ?_; rintro e w2 ⟨rfl, rfl⟩; exact ⟨rfl, _, rfl⟩))
  go_wp2
  go_ret
  exact ⟨by rw [← kgt_eq, Bool.not_or]; rfl, (Ext.refl W).drewN _⟩
set_option maxRecDepth 100000 in
set_option maxHeartbeats 800000 in
theorem which_any {w : World} {F : Nat → Prop} {h : Nat} {s : Sl} {ks : List (PT h)} (hs : Rd w (Lt w.heap.size) 1 s ks.length (ptrs h ks)) (hk : ∀ k ∈ ks, IsN w F h k) (hF : ∀ b, F b → b < w.heap.size) (hp : ∀ k ∈ ks, 0 < (ents h k).length) (k : ByteArray) (hsort : Sorted (ks.flatMap (ents h))) (hn : ks.length ≤ 1000) :
    Calls Try.prog 56 #[.slice s.a ks.length s.c, .string k] w fun e w' => e = .returned (.int .i64 (whichK h ks k)) ∧ Ext w w' := by
  have HS := Lib.hid hs
  have HO := Lib.hid hsort
  have HK := Lib.hid hk
  have HF := Lib.hid hF
  have HP := Lib.hid hp
  have hsr : ∀ W, Ext w W → W.cell? ⟨w.heap.size, 0, none⟩ = some (.slice s.a ks.length s.c) → W.cell? ⟨w.heap.size + 1, 0, none⟩ = some (.string k) →
      Calls Try.prog 61 #[.int .i64 ks.length, .func (.func 68) #[] #[.pointer (some ⟨w.heap.size, 0, none⟩), .pointer (some ⟨w.heap.size + 1, 0, none⟩)]] W (SearchPost ks.length (fun i => klt k ((ks[i]?.map fun t => firstK (ents h t)).getD ByteArray.empty)) W) := by
    intro W hW h1 h2
    refine search_any 68 _ _ ks.length _ W (enters_of Try.func68 (by kernel_rfl) rfl) (by omega) ?_ ?_
    · intro i W' hi hW'
      obtain ⟨x, hx⟩ : ∃ x, ks[i]? = some x := ⟨_, List.getElem?_eq_getElem hi⟩
      rw [hx]
      have hb1 := World.block_lt_of_cell? W _ h1
      have hb2 := World.block_lt_of_cell? W _ h2
      exact which1_any HS.out HK.out HF.out ((hW'.cell hb1).trans h1) ((hW'.cell hb2).trans h2) (hW.trans hW') hn hx
    · intro i j hij hj hpi
      by_cases hij' : i = j
      · subst hij'; exact hpi
      · obtain ⟨x, hx⟩ : ∃ x, ks[i]? = some x := ⟨_, List.getElem?_eq_getElem (by omega)⟩
        obtain ⟨y, hy⟩ : ∃ y, ks[j]? = some y := ⟨_, List.getElem?_eq_getElem hj⟩
        have hxy := firsts_rise HO.out HP.out (i := i) (j := j) (by omega) hx hy
        rw [hx] at hpi; rw [hy]
        exact klt_trans hpi hxy
  clear hs hsort hk hF hp
  go_enter Try.func56, Try.ntmps56
  go_wp2_with fail
  refine (hsr _ (((Ext.refl w).alloc _ _).alloc _ _) (by simp) (by simp)).mono ?_
  rintro e w1 ⟨p, rfl, hp, hlo, hhi, he1⟩
  have hpos : posK h ks k = p := posK_of hp (fun i t hi ht => by
      have : klt k ((ks[i]?.map fun t => firstK (ents h t)).getD ByteArray.empty) = false := hlo i hi
      rwa [ht] at this) (fun t ht => by
      have : klt k ((ks[p]?.map fun t => firstK (ents h t)).getD ByteArray.empty) = true := hhi p (Nat.le_refl _) (List.getElem?_eq_some_iff.1 ht).1
      rwa [ht] at this)
  have hX : Ext w w1 := (((Ext.refl w).alloc _ _).alloc _ _).trans he1
  have HX := Lib.hid hX
  have HPS := Lib.hid hpos
  have hw1 : IntKind.i64.wrap ((p : Int) - 1) = (p : Int) - 1 := by rw [IntKind.wrap_i64]; omega
  clear hlo hhi hsr hX hpos he1
  go_wp2_with fail
  · go_ret
    refine ⟨?_, HX.out⟩
    rw [whichK, HPS.out, show p - 1 = 0 from by omega]
    rfl
  · go_ret
    refine ⟨?_, HX.out⟩
    rw [whichK, HPS.out, show ((p - 1 : Nat) : Int) = (p : Int) - 1 from by omega]
    rfl
end Go.Proofs.Ytohajcflklejjaa
namespace Go.Proofs.Ytohajcflklejjaa
open Go.RowKit
set_option linter.unusedVariables false
theorem sorted_app {A B : List Ent} (h : Sorted (A ++ B)) : Sorted A ∧ Sorted B ∧ ∀ a ∈ A, ∀ b ∈ B, klt a.1 b.1 = true := List.pairwise_append.1 h
theorem take_mid {α : Type} {l : List α} {i : Nat} {x : α} (h : l[i]? = some x) : l = l.take i ++ x :: l.drop (i + 1) := by
  obtain ⟨hi, rfl⟩ := List.getElem?_eq_some_iff.1 h
  rw [← List.drop_eq_getElem_cons hi, List.take_append_drop]
theorem firstK_le {es : List Ent} (hs : Sorted es) {e : Ent} (he : e ∈ es) : klt e.1 (firstK es) = false := by
  cases es with
  | nil => cases he
  | cons x xs =>
    rcases List.mem_cons.1 he with rfl | he
    · exact klt_irrefl _
    · exact klt_asymm ((List.pairwise_cons.1 hs).1 e he)
theorem posK_below {h : Nat} {k : ByteArray} : ∀ {ks : List (PT h)} {i : Nat} {t : PT h}, i < posK h ks k → ks[i]? = some t → klt k (firstK (ents h t)) = false
  | [], i, t, _, ht => by simp at ht
  | a :: ks, i, t, hi, ht => by
    unfold posK at hi
    rw [List.takeWhile_cons] at hi
    split at hi
    · rename_i ha
      cases i with
      | zero => simp at ht; subst ht; simpa using ha
      | succ i => exact posK_below (ks := ks) (by unfold posK; simpa using hi) (by simpa using ht)
    · simp at hi
theorem posK_at {h : Nat} {k : ByteArray} : ∀ {ks : List (PT h)} {t : PT h}, ks[posK h ks k]? = some t → klt k (firstK (ents h t)) = true
  | [], t, ht => by simp at ht
  | a :: ks, t, ht => by
    unfold posK at ht
    rw [List.takeWhile_cons] at ht
    split at ht
    · exact posK_at (ks := ks) (by unfold posK; simpa using ht)
    · rename_i ha
      simp at ht; subst ht; simpa using ha
theorem which_split {h : Nat} {ks : List (PT h)} (hs : Sorted (ks.flatMap (ents h))) (hp : ∀ k ∈ ks, 0 < (ents h k).length) (hne : 0 < ks.length) (k : ByteArray) :
    ∃ kid, ks[whichK h ks k]? = some kid ∧ (∀ e ∈ (ks.take (whichK h ks k)).flatMap (ents h), klt e.1 k = true) ∧ (∀ e ∈ (ks.drop (whichK h ks k + 1)).flatMap (ents h), klt k e.1 = true) := by
  have hle := posK_le h ks k
  have hi : whichK h ks k < ks.length := by unfold whichK; omega
  refine ⟨_, List.getElem?_eq_getElem hi, fun e he => ?_, fun e he => ?_⟩
  · obtain ⟨t, ht, het⟩ := List.mem_flatMap.1 he
    obtain ⟨j, hj⟩ := List.getElem?_of_mem ht
    rw [List.getElem?_take] at hj
    split at hj
    · rename_i hji
      have hlt : whichK h ks k < posK h ks k := by unfold whichK at hji ⊢; omega
      have h1 := posK_below hlt (List.getElem?_eq_getElem hi)
      obtain ⟨b, hbm, eb⟩ := firstK_mem (hp _ (List.mem_of_getElem? (List.getElem?_eq_getElem hi)))
      have h2 := kids_lt hs hji hj (List.getElem?_eq_getElem hi) e het b hbm
      rw [← eb] at h2
      exact klt_of_lt_ge h2 h1
    · cases hj
  · obtain ⟨t, ht, het⟩ := List.mem_flatMap.1 he
    obtain ⟨j, hj⟩ := List.getElem?_of_mem ht
    rw [List.getElem?_drop] at hj
    have hks := kid_sorted hs t (List.mem_of_getElem? hj)
    have hlt : posK h ks k < ks.length := by
      have := (List.getElem?_eq_some_iff.1 hj).1
      unfold whichK at this; omega
    obtain ⟨u, hu⟩ : ∃ u, ks[posK h ks k]? = some u := ⟨_, List.getElem?_eq_getElem hlt⟩
    have hb := posK_at hu
    have hf := firstK_le hks het
    have hge : klt (firstK (ents h t)) (firstK (ents h u)) = false := by
      by_cases hjp : posK h ks k = whichK h ks k + 1 + j
      · rw [hjp, hj] at hu
        simp only [Option.some.injEq] at hu
        rw [hu]; exact klt_irrefl _
      · exact klt_asymm (firsts_rise hs hp (i := posK h ks k) (j := whichK h ks k + 1 + j) (by unfold whichK at *; omega) hu hj)
    exact klt_of_lt_ge hb (by
      cases hc : klt e.1 (firstK (ents h u))
      · rfl
      · exact absurd (klt_of_ge_lt hf hc) (by rw [hge]; simp))
def WithR (B : Nat) (k : ByteArray) (v : Val) : (h : Nat) → PT h → List (PT h) → Prop
  | 0, t, ts => ts.map Prod.snd = chunk (insE t.2 k v) ∧ ∀ u ∈ ts, B ≤ u.1
  | h + 1, t, ts => ∃ kid rs, t.2[whichK h t.2 k]? = some kid ∧ WithR B k v h kid rs ∧ ts.map Prod.snd = chunk (t.2.take (whichK h t.2 k) ++ rs ++ t.2.drop (whichK h t.2 k + 1)) ∧ ∀ u ∈ ts, B ≤ u.1
theorem WithR.mono {A B : Nat} (hAB : A ≤ B) {k : ByteArray} {v : Val} : ∀ {h : Nat} {t : PT h} {ts : List (PT h)}, WithR B k v h t ts → WithR A k v h t ts
  | 0, _, _, ⟨h1, h2⟩ => ⟨h1, fun u hu => Nat.le_trans hAB (h2 u hu)⟩
  | _ + 1, _, _, ⟨kid, rs, h1, h2, h3, h4⟩ => ⟨kid, rs, h1, h2.mono hAB, h3, fun u hu => Nat.le_trans hAB (h4 u hu)⟩
theorem one_of {α β : Type} {ts : List (β × List α)} {l : List α} (h : ts.map Prod.snd = [l]) : ∃ x, ts = [x] ∧ x.2 = l := by
  match ts, h with
  | [x], h => exact ⟨x, rfl, by simpa using h⟩
theorem two_of {α β : Type} {ts : List (β × List α)} {l m : List α} (h : ts.map Prod.snd = [l, m]) : ∃ x y, ts = [x, y] ∧ x.2 = l ∧ y.2 = m := by
  match ts, h with
  | [x, y], h => exact ⟨x, y, rfl, by simpa using h⟩
theorem one0 {ts : List (PT 0)} {l : List Ent} (h : ts.map Prod.snd = [l]) : ∃ x : PT 0, ts = [x] ∧ x.2 = l := one_of (α := Ent) (β := Nat) h
theorem two0 {ts : List (PT 0)} {l m : List Ent} (h : ts.map Prod.snd = [l, m]) : ∃ x y : PT 0, ts = [x, y] ∧ x.2 = l ∧ y.2 = m := two_of (α := Ent) (β := Nat) h
theorem one1 {n : Nat} {ts : List (PT (n + 1))} {l : List (PT n)} (h : ts.map Prod.snd = [l]) : ∃ x : PT (n + 1), ts = [x] ∧ x.2 = l := one_of (α := PT n) (β := Nat) h
theorem two1 {n : Nat} {ts : List (PT (n + 1))} {l m : List (PT n)} (h : ts.map Prod.snd = [l, m]) : ∃ x y : PT (n + 1), ts = [x, y] ∧ x.2 = l ∧ y.2 = m := two_of (α := PT n) (β := Nat) h
theorem chunk_two {α : Type} (l : List α) : (∃ a, chunk l = [a]) ∨ ∃ a b, chunk l = [a, b] := by
  unfold chunk
  split
  · exact .inl ⟨_, rfl⟩
  · exact .inr ⟨_, _, rfl⟩
theorem WithR.two {B : Nat} {k : ByteArray} {v : Val} {h : Nat} {t : PT h} {ts : List (PT h)} (hw : WithR B k v h t ts) : (∃ a, ts = [a]) ∨ ∃ a b, ts = [a, b] := by
  have : ∀ {α β : Type} (l : List α) {ts : List (β × List α)}, ts.map Prod.snd = chunk l → (∃ a, ts = [a]) ∨ ∃ a b, ts = [a, b] := by
    intro α β l ts h
    rcases chunk_two l with ⟨a, ha⟩ | ⟨a, b, ha⟩ <;> rw [ha] at h
    · match ts, h with
      | [x], _ => exact .inl ⟨x, rfl⟩
    · match ts, h with
      | [x, y], _ => exact .inr ⟨x, y, rfl⟩
  cases h with
  | zero => exact this _ hw.1
  | succ h => obtain ⟨kid, rs, -, -, h3, -⟩ := hw; exact this _ h3
theorem chunk_flat {α : Type} (l : List α) : (chunk l).flatten = l := by
  unfold chunk; split <;> simp
theorem insE_len : ∀ (es : List Ent) (k : ByteArray) (v : Val), (insE es k v).length = es.length ∨ (insE es k v).length = es.length + 1
  | [], _, _ => .inr rfl
  | e :: es, k, v => by
    simp only [insE]
    split
    · rcases insE_len es k v with h | h <;> simp [h]
    · split <;> simp
theorem insE_pos_len (es : List Ent) (k : ByteArray) (v : Val) : 0 < (insE es k v).length := by
  cases es with
  | nil => simp [insE]
  | cons e es => simp only [insE]; split <;> (try split) <;> simp
theorem flat_snd0 (ts : List (PT 0)) : ts.flatMap (ents 0) = (ts.map Prod.snd).flatten := by
  induction ts with
  | nil => rfl
  | cons t ts ih =>
    rw [List.flatMap_cons, ih]
    rfl
theorem flat_snd (h : Nat) (ts : List (PT (h + 1))) : ts.flatMap (ents (h + 1)) = ((ts.map Prod.snd).flatten : List (PT h)).flatMap (ents h) := by
  induction ts with
  | nil => rfl
  | cons t ts ih =>
    rw [List.flatMap_cons, ih]
    show t.2.flatMap (ents h) ++ _ = (t.2 ++ _).flatMap (ents h)
    rw [List.flatMap_append]
theorem kids_pos {h : Nat} {t : PT (h + 1)} (ok : OkT (h + 1) t) : ∀ k ∈ t.2, 0 < (ents h k).length := fun k hk => ents_pos h k (ok.2.2 k hk).1 (by have := (ok.2.2 k hk).2; omega)
theorem WithR.ents {B : Nat} {k : ByteArray} {v : Val} : ∀ {h : Nat} {t : PT h} {ts : List (PT h)}, WithR B k v h t ts → OkT h t → Sorted (ents h t) → ts.flatMap (Proofs.Ytohajcflklejjaa.ents h) = insE (ents h t) k v
  | 0, t, ts, ⟨h1, _⟩, _, _ => by rw [flat_snd0, h1, chunk_flat]; rfl
  | h + 1, t, ts, ⟨kid, rs, hk, hr, h1, _⟩, ok, hs => by
    have hp := kids_pos ok
    obtain ⟨kid', hk', hA, hC⟩ := which_split (h := h) (ks := t.2) hs hp (by have := ok.1; omega) k
    rw [hk] at hk'
    simp only [Option.some.injEq] at hk'
    subst hk'
    have hm := List.mem_of_getElem? hk
    have ih := WithR.ents hr (ok.2.2 kid hm).1 (kid_sorted hs kid hm)
    rw [flat_snd, h1, chunk_flat, List.flatMap_append, List.flatMap_append, ih]
    show _ = insE (t.2.flatMap (Proofs.Ytohajcflklejjaa.ents h)) k v
    conv => rhs; rw [take_mid hk]
    rw [List.flatMap_append, List.flatMap_cons, insE_app hA, insE_stop hC, List.append_assoc]
theorem WithR.ok {B : Nat} {k : ByteArray} {v : Val} : ∀ {h : Nat} {t : PT h} {ts : List (PT h)}, WithR B k v h t ts → OkT h t →
    (∀ u ∈ ts, OkT h u ∧ 1 ≤ size h u ∧ (4 ≤ size h t → 4 ≤ size h u)) ∧ (2 ≤ ts.length → ∀ u ∈ ts, 4 ≤ size h u)
  | 0, t, ts, ⟨h1, _⟩, ok => by
    have hl := insE_len t.2 k v
    have hp := insE_pos_len t.2 k v
    have ok8 : t.2.length ≤ 8 := ok
    unfold chunk at h1
    split at h1
    · rename_i h8
      obtain ⟨x, rfl, hx⟩ := one0 h1
      · refine ⟨fun u hu => ?_, fun h => by simp at h⟩
        simp at hu; subst hu
        refine ⟨show u.2.length ≤ 8 by rw [hx]; exact h8, show 1 ≤ u.2.length by rw [hx]; omega, fun h4 => show 4 ≤ u.2.length by rw [hx]; have h4 : 4 ≤ t.2.length := h4; omega⟩
    · rename_i h8
      obtain ⟨x, y, rfl, hx⟩ := two0 h1
      · have lx : x.2.length = 4 := by rw [hx.1, List.length_take]; omega
        have ly : 4 ≤ y.2.length ∧ y.2.length ≤ 8 := by rw [hx.2, List.length_drop]; omega
        refine ⟨fun u hu => ?_, fun _ u hu => ?_⟩
        · simp at hu
          rcases hu with rfl | rfl
          · exact ⟨show u.2.length ≤ 8 by omega, show 1 ≤ u.2.length by omega, fun _ => show 4 ≤ u.2.length by omega⟩
          · exact ⟨show u.2.length ≤ 8 by omega, show 1 ≤ u.2.length by omega, fun _ => show 4 ≤ u.2.length by omega⟩
        · simp at hu
          rcases hu with rfl | rfl
          · show 4 ≤ u.2.length; omega
          · show 4 ≤ u.2.length; omega
  | h + 1, t, ts, ⟨kid, rs, hk, hr, h1, _⟩, ok => by
    have hm := List.mem_of_getElem? hk
    have hkl := (List.getElem?_eq_some_iff.1 hk).1
    obtain ⟨i1, i2⟩ := WithR.ok hr (ok.2.2 kid hm).1
    have hk4 := (ok.2.2 kid hm).2
    have hall : ∀ u ∈ t.2.take (whichK h t.2 k) ++ rs ++ t.2.drop (whichK h t.2 k + 1), OkT h u ∧ 4 ≤ size h u := fun u hu => by
      rcases List.mem_append.1 hu with hu | hu
      · rcases List.mem_append.1 hu with hu | hu
        · exact ok.2.2 u (List.mem_of_mem_take hu)
        · exact ⟨(i1 u hu).1, (i1 u hu).2.2 hk4⟩
      · exact ok.2.2 u (List.mem_of_mem_drop hu)
    have hlen : (t.2.take (whichK h t.2 k) ++ rs ++ t.2.drop (whichK h t.2 k + 1)).length = t.2.length ∨ (t.2.take (whichK h t.2 k) ++ rs ++ t.2.drop (whichK h t.2 k + 1)).length = t.2.length + 1 := by
      simp only [List.length_append, List.length_take, List.length_drop]
      rcases hr.two with ⟨a, rfl⟩ | ⟨a, b, rfl⟩ <;> simp <;> omega
    obtain ⟨o1, o2, -⟩ := ok
    generalize t.2.take (whichK h t.2 k) ++ rs ++ t.2.drop (whichK h t.2 k + 1) = L at *
    unfold chunk at h1
    split at h1
    · rename_i h8
      obtain ⟨x, rfl, hx⟩ := one1 h1
      · refine ⟨fun u hu => ?_, fun h => by simp at h⟩
        simp at hu; subst hu
        refine ⟨⟨by rw [hx]; omega, by rw [hx]; exact h8, by rw [hx]; exact hall⟩, show 1 ≤ u.2.length by rw [hx]; omega, fun h4 => show 4 ≤ u.2.length by rw [hx]; have h4 : 4 ≤ t.2.length := h4; omega⟩
    · rename_i h8
      obtain ⟨x, y, rfl, hx⟩ := two1 h1
      · have lx : x.2.length = 4 := by rw [hx.1, List.length_take]; omega
        have ly : 4 ≤ y.2.length ∧ y.2.length ≤ 8 := by rw [hx.2, List.length_drop]; omega
        have ax : ∀ u ∈ x.2, OkT h u ∧ 4 ≤ size h u := fun u hu => hall u (List.mem_of_mem_take (hx.1 ▸ hu))
        have ay : ∀ u ∈ y.2, OkT h u ∧ 4 ≤ size h u := fun u hu => hall u (List.mem_of_mem_drop (hx.2 ▸ hu))
        refine ⟨fun u hu => ?_, fun _ u hu => ?_⟩
        · simp at hu
          rcases hu with rfl | rfl
          · exact ⟨⟨by omega, by omega, ax⟩, show 1 ≤ u.2.length by omega, fun _ => show 4 ≤ u.2.length by omega⟩
          · exact ⟨⟨by omega, by omega, ay⟩, show 1 ≤ u.2.length by omega, fun _ => show 4 ≤ u.2.length by omega⟩
        · simp at hu
          rcases hu with rfl | rfl
          · show 4 ≤ u.2.length; omega
          · show 4 ≤ u.2.length; omega
theorem insE_pos {es : List Ent} (hs : Sorted es) (k : ByteArray) (v : Val) :
    insE es k v = es.take (posE es k) ++ (k, v) :: (if (es[posE es k]?).map Prod.fst = some k then es.drop (posE es k + 1) else es.drop (posE es k)) := by
  have e1 : es.take (posE es k) = es.takeWhile fun e => klt e.1 k := (List.prefix_iff_eq_take.1 (List.takeWhile_prefix (l := es) (fun e : Ent => klt e.1 k))).symm
  have hA : ∀ e ∈ es.take (posE es k), klt e.1 k = true := fun e he => by
    rw [e1] at he
    exact List.all_eq_true.1 (List.all_takeWhile (l := es) (p := fun e : Ent => klt e.1 k)) e he
  have hB0 : ∀ e, es[posE es k]? = some e → klt e.1 k = false := by
    intro e he
    have e2 : es.drop (posE es k) = es.dropWhile fun e => klt e.1 k := by
      have h1 := List.take_append_drop (posE es k) es
      rw [e1] at h1
      have h2 := List.takeWhile_append_dropWhile (p := fun e : Ent => klt e.1 k) (l := es)
      exact List.append_cancel_left (h1.trans h2.symm)
    have h0 : (es.drop (posE es k))[0]? = some e := by rw [List.getElem?_drop]; exact he
    rw [e2] at h0
    cases hd : es.dropWhile fun e => klt e.1 k with
    | nil => rw [hd] at h0; simp at h0
    | cons x xs =>
      rw [hd] at h0; simp at h0; subst h0
      have := List.head?_dropWhile_not (fun e : Ent => klt e.1 k) es
      rw [hd] at this
      simpa using this
  have hB : ∀ e ∈ es.drop (posE es k), klt e.1 k = false := fun e he => by
    obtain ⟨j, hj⟩ := List.getElem?_of_mem he
    rw [List.getElem?_drop] at hj
    by_cases h0 : j = 0
    · subst h0; exact hB0 e hj
    · obtain ⟨y, hy⟩ : ∃ y, es[posE es k]? = some y := ⟨_, List.getElem?_eq_getElem (by have := (List.getElem?_eq_some_iff.1 hj).1; omega)⟩
      have h1 := hB0 y hy
      have h2 := sorted_lt hs (i := posE es k) (j := posE es k + j) (by omega) hy hj
      cases hc : klt e.1 k
      · rfl
      · rw [klt_trans h2 hc] at h1; cases h1
  conv => lhs; rw [← List.take_append_drop (posE es k) es]
  rw [insE_app hA, insE_at hB]
  congr 2
  rw [List.head?_drop, List.tail_drop]
end Go.Proofs.Ytohajcflklejjaa
namespace Go.Proofs.Ytohajcflklejjaa
open Go.RowKit
set_option linter.unusedVariables false
set_option linter.unusedSimpArgs false
theorem OE.block {w : World} {base : Nat} {s : Sl} {xs : List LE} (h : OE w base s xs) (hn : 0 < xs.length) : ∃ g cap, s = ⟨some ⟨g, 0, none⟩, cap⟩ ∧ base ≤ g ∧ xs.length ≤ cap ∧ cap ≤ maxLen ∧ Filling w g 63 7 cap := by
  rcases h.own.2 with ⟨hv, h0⟩ | ⟨g, cap, cur, hv, hbg, hg, hnc, hcm, hcs, -⟩
  · omega
  · simp only [Value.slice.injEq] at hv
    exact ⟨g, cap, by obtain ⟨a, c⟩ := s; simp_all, hbg, hnc, hcm, cur, hg, hcs⟩
theorem flatE_set (xs : List LE) (i : Nat) (x : LE) {p : Nat} {u : Value} (hi : i < xs.length) (hu : (flatE (xs.set i x))[p]? = some u) :
    (∃ c, c < 7 ∧ p = i * 7 + c ∧ x.cells[c]? = some u) ∨ ((p < i * 7 ∨ i * 7 + 7 ≤ p) ∧ (flatE xs)[p]? = some u) := by
  have hp : p < xs.length * 7 := by have := (List.getElem?_eq_some_iff.1 hu).1; rw [flatE_len, List.length_set] at this; exact this
  obtain ⟨j, c, rfl, hc7⟩ : ∃ j c, p = j * 7 + c ∧ c < 7 := ⟨p / 7, p % 7, by omega, by omega⟩
  by_cases hj : j = i
  · subst hj
    rw [flatE_at (x := x) (by rw [List.getElem?_set_self hi]) c hc7] at hu
    exact .inl ⟨c, hc7, rfl, hu⟩
  · obtain ⟨y, hy⟩ : ∃ y, xs[j]? = some y := ⟨_, List.getElem?_eq_getElem (by omega)⟩
    rw [flatE_at (x := y) (by rw [List.getElem?_set_ne (by omega)]; exact hy) c hc7] at hu
    exact .inr ⟨by omega, by rw [flatE_at hy c hc7]; exact hu⟩
theorem OE.set {w : World} {base g cap : Nat} {xs : List LE} (ho : OE w base ⟨some ⟨g, 0, none⟩, cap⟩ xs) (hbg : base ≤ g) (hb : base ≤ w.heap.size) (hcap : xs.length ≤ cap) (hcm : cap ≤ maxLen) (hf : Filling w g 63 7 cap) {i : Nat} (hi : i < xs.length) {k : ByteArray} {v : Val} {sl so : Sl} (hv : RV w (Lt base) v sl so) (hk : k.size ≤ maxLen) :
    ES (putM w g (i * 7) k v sl so) (Lt w.heap.size) ⟨some ⟨g, 0, none⟩, cap⟩ (xs.set i ⟨k, v, sl, so⟩) := by
  have hh := putM_here hf (o := i * 7) k v sl so (by omega)
  refine ⟨⟨g, 0, ?_, by rw [flatE_len], fun p u hu => ?_⟩, fun x hx => ?_, by rw [List.length_set]; exact ho.few⟩
  · rw [List.length_set]; exact .some _ _ _ _ hcap hcm hf.lt
  · rw [Nat.zero_add]
    rcases flatE_set xs i _ hi hu with ⟨c, hc, rfl, hcu⟩ | ⟨hd, hpu⟩
    · have hc7' : c = 0 ∨ c = 1 ∨ c = 2 ∨ c = 3 ∨ c = 4 ∨ c = 5 ∨ c = 6 := by omega
      rcases hc7' with rfl | rfl | rfl | rfl | rfl | rfl | rfl
      · exact hh.1.trans hcu
      · exact hh.2.c0.trans hcu
      · exact hh.2.c1.trans hcu
      · exact hh.2.c2.trans hcu
      · exact hh.2.c3.trans hcu
      · exact hh.2.c4.trans hcu
      · exact hh.2.c5.trans hcu
    · rw [putM_other _ _ _ _ _ _ _ _ (by omega)]
      have := ho.own.cells (g := g) rfl p u hpu
      rwa [add_at, Nat.zero_add] at this
  · rcases List.mem_or_eq_of_mem_set hx with hx | rfl
    · exact ⟨((ho.vals x hx).1.agree (putM_agree w g _ k v sl so (fun h => h.2 rfl))).mono fun i hi => hi.1.2, (ho.vals x hx).2⟩
    · exact ⟨(hv.agree (putM_agree w g _ k v sl so (fun h => by have h : g < base := h; omega))).mono fun i hi => Nat.lt_of_lt_of_le hi hb, hk⟩
theorem LE.one (x : LE) : ∀ u ∈ x.cells, u.oneCell' = true := by
  intro u hu
  simp only [LE.cells, List.mem_cons, List.not_mem_nil, or_false] at hu
  rcases hu with rfl | rfl | rfl | rfl | rfl | rfl | rfl <;> rfl
theorem flatE_one (xs : List LE) : ∀ u ∈ flatE xs, u.oneCell' = true := fun u hu => by
  obtain ⟨x, -, hx⟩ := List.mem_flatMap.1 hu
  exact x.one u hx
theorem OE.inserted {w w' : World} {base p : Nat} {s s' : Sl} {xs : List LE} (ho : OE w base s xs) (hp : p ≤ xs.length) (hb : base ≤ w.heap.size) {x : LE} (hv : RV w (Lt base) x.v x.sl x.so) (hk : x.k.size ≤ maxLen) (hf : (xs.length + 1) * 104 ≤ 140737488355328)
    (hown : w'.ownsRow base 63 7 (.slice s'.a (xs.length + 1) s'.c) (xs.length + 1) ((flatE xs).take (p * 7) ++ x.cells ++ (flatE xs).drop (p * 7))) (hw : Wr w w' s.row) :
    ES w' (Lt w'.heap.size) s' (xs.take p ++ x :: xs.drop p) := by
  have hl : (xs.take p ++ x :: xs.drop p).length = xs.length + 1 := by simp; omega
  have hrow : ∀ b, s.row = some b → base ≤ b := fun b hb => (ho.own.lt b (by obtain ⟨a, c⟩ := s; cases a <;> simp_all [Value.ownBlock, Sl.row])).1
  refine ⟨?_, fun y hy => ?_, by rw [hl]; exact hf⟩
  · have h1 := Rd.of_own hown
    rw [hl, flatE_app, flatE_cons, ← flatE_take, ← flatE_drop, ← List.append_assoc]
    exact h1.mono fun i hi => hi.2
  · rcases List.mem_append.1 hy with hy | hy
    · have h1 := ho.vals y (List.mem_of_mem_take hy)
      exact ⟨(h1.1.agree (hw.agree (fun i hi => hi.1.2) fun k hk h => h.2 hk)).mono fun i hi => Nat.lt_of_lt_of_le hi.1.2 hw.grown.size, h1.2⟩
    · rcases List.mem_cons.1 hy with rfl | hy
      · exact ⟨(hv.agree (hw.agree (fun i hi => Nat.lt_of_lt_of_le hi hb) fun k hk h => Nat.lt_irrefl _ (Nat.lt_of_lt_of_le h (hrow k hk)))).mono fun i hi => Nat.lt_of_lt_of_le hi (Nat.le_trans hb hw.grown.size), hk⟩
      · have h1 := ho.vals y (List.mem_of_mem_drop hy)
        exact ⟨(h1.1.agree (hw.agree (fun i hi => hi.1.2) fun k hk h => h.2 hk)).mono fun i hi => Nat.lt_of_lt_of_le hi.1.2 hw.grown.size, h1.2⟩
def WithPost0 (es : List Ent) (k : ByteArray) (v : Val) (w : World) (e : Ending) (w' : World) : Prop :=
  ∃ ts : List (PT 0), e = two 0 ts ∧ ts.map Prod.snd = chunk (insE es k v) ∧ (∀ u ∈ ts, w.heap.size ≤ u.1 ∧ IsN w' (In w.heap.size w'.heap.size) 0 u) ∧ Ext w w'
theorem with0_end {w w3 w' : World} {es : List Ent} {k : ByteArray} {v : Val} (hE : Ext w w3) {ts : List (PT 0)} (h1 : ts.map Prod.snd = chunk (insE es k v)) (h2 : ∀ t ∈ ts, w3.heap.size ≤ addr 0 t ∧ IsN w' (In w3.heap.size w'.heap.size) 0 t) (h3 : Ext w3 w') : WithPost0 es k v w (two 0 ts) w' :=
  ⟨ts, rfl, h1, fun u hu => ⟨Nat.le_trans hE.size (h2 u hu).1, (h2 u hu).2.mono fun i hi => ⟨Nat.le_trans hE.size hi.1, hi.2⟩⟩, hE.trans h3⟩
theorem two_cases {es : List Ent} {ts : List (PT 0)} (h : ts.map Prod.snd = chunk es) : (∃ a, ts = [a]) ∨ ∃ a b, ts = [a, b] := by
  rcases chunk_two es with ⟨a, ha⟩ | ⟨a, b, ha⟩ <;> rw [ha] at h
  · obtain ⟨x, hx, -⟩ := one0 h; exact .inl ⟨x, hx⟩
  · obtain ⟨x, y, hx, -⟩ := two0 h; exact .inr ⟨x, y, hx⟩
set_option maxRecDepth 100000 in
set_option maxHeartbeats 1000000 in
theorem with_leaf {w : World} {nv : Value} {es : List Ent} (hh : ∀ W, Ext w W → Calls Try.prog 32 #[nv] W fun e w' => e = .returned (.int .i64 0) ∧ W = w') (he : ∀ W, Ext w W → Calls Try.prog 23 #[nv] W (EntriesPost es W))
    (hs : Sorted es) (h8 : es.length ≤ 8) {k : ByteArray} {v : Val} {sl so : Sl} (hv : RV w (Lt w.heap.size) v sl so) (hkm : k.size ≤ maxLen) :
    Calls Try.prog 39 #[nv, aggE k v sl so] w (WithPost0 es k v w) := by
  have HH := Lib.hid hh
  have HE := Lib.hid he
  have HV := Lib.hid hv
  have HS := Lib.hid hs
  clear hh he hv hs
  go_enter Try.func39, Try.ntmps39
  go_wp2_with fail
  have hx0 : Ext w (w.alloc (.cells #[.string k, .int .i64 v.kind, .bool v.b, .int .i64 v.i, .string v.t, .slice sl.a v.l.length sl.c, .slice so.a v.ok.length so.c] 63)) := (Ext.refl w).alloc _ _
  have hb0 := Blk.new w 63 #[.string k, .int .i64 v.kind, .bool v.b, .int .i64 v.i, .string v.t, .slice sl.a v.l.length sl.c, .slice so.a v.ok.length so.c]
  generalize hW0 : World.alloc _ _ = W0 at *
  have hz0 : W0.heap.size = w.heap.size + 1 := by rw [← hW0]; simp
  clear hW0
  refine (HH.out _ hx0).mono ?_
  rintro e w1 ⟨rfl, rfl⟩
  go_wp2_with fail
  refine (HE.out _ hx0).mono ?_
  rintro e w1 ⟨s', xs', rfl, hxs, ho, hx1⟩
  have hb1 := hb0.ext hx1
  obtain ⟨c0, c1, c2, c3, c4, c5, c6⟩ := hb1.c7
  have hpl := place_any (w := w1) (ho.es.mono fun i hi => hi.2) k (by rw [hxs]; exact HS.out)
  rw [hxs] at hpl
  obtain ⟨p, hp⟩ : ∃ p, posE es k = p := ⟨_, rfl⟩
  have hple := posE_le es k
  unfold PlacePost at hpl
  have hins := insE_pos HS.out k v
  rw [hp] at hpl hple hins
  have hlen : xs'.length = es.length := by rw [← hxs, List.length_map]
  have HO := Lib.hid ho
  have HPL := Lib.hid hpl
  have HI := Lib.hid hins
  have HXS := Lib.hid hxs
  have HX1 := Lib.hid hx1
  have HLEN := Lib.hid hlen
  have h8' : xs'.length ≤ 8 := by omega
  clear ho hpl hp hins hxs hlen
  go_wp2_with fail
  refine HPL.out.mono ?_
  rintro e w2 ⟨rfl, hx2⟩
  have hb2 := hb1.ext hx2
  obtain ⟨d0, d1, d2, d3, d4, d5, d6⟩ := hb2.c7
  clear c0 c1 c2 c3 c4 c5 c6
  have hX2 : Ext w w2 := (hx0.trans hx1).trans hx2
  have ho2 := HO.out.ext hx2
  have HX2 := Lib.hid hX2
  have HO2 := Lib.hid ho2
  have hb2l := hb2.lt
  have hbase : W0.heap.size ≤ w2.heap.size := (hx1.trans hx2).size
  clear hb1 hb2 hb0 hx0 hx1 hx2 hX2
  cases ht : decide ((es[p]?).map Prod.fst = some k)
  · have htp : ¬ (es[p]?).map Prod.fst = some k := of_decide_eq_false ht
    have hi2 : insE es k v = es.take p ++ (k, v) :: es.drop p := by rw [HI.out, if_neg htp]
    have hE3 : Ext w2 (w2.alloc (.cells #[.string k, .int .i64 v.kind, .bool v.b, .int .i64 v.i, .string v.t, .slice sl.a v.l.length sl.c, .slice so.a v.ok.length so.c] 63)) := (Ext.refl w2).alloc _ _
    have hb3 := Blk.new w2 63 (LE.cells ⟨k, v, sl, so⟩).toArray
    have HI2 := Lib.hid hi2
    clear ho2 hi2 htp
    go_wp2_with fail
    change Calls _ _ _ (w2.alloc (.cells (LE.cells ⟨k, v, sl, so⟩).toArray 63)) _
    change Ext w2 (w2.alloc (.cells (LE.cells ⟨k, v, sl, so⟩).toArray 63)) at hE3
    generalize hW3 : w2.alloc (.cells (LE.cells ⟨k, v, sl, so⟩).toArray 63) = W3 at *
    have ho3 := HO2.out.ext hE3
    have hvb : RV W3 (Lt W0.heap.size) v sl so := (HV.out.agree ((HX2.out.trans hE3).agree fun _ h => h)).mono fun i hi => Nat.lt_of_lt_of_le hi (by rw [hz0]; exact Nat.le_succ _)
    have hne : s'.row ≠ some w2.heap.size := fun h => by
      have := (HO2.out.own.lt w2.heap.size (by obtain ⟨a, c⟩ := s'; cases a <;> simp_all [Value.ownBlock, Sl.row])).2
      omega
    have hins := insE_any (i := p) (base := W0.heap.size) ho3.own (Nat.le_trans hbase hE3.size) (by omega) (by have := HLEN.out; omega) (LE.len ⟨k, v, sl, so⟩) hb3 hne (LE.one _) (flatE_one _)
    have HE3 := Lib.hid hE3
    have HO3 := Lib.hid ho3
    have HVB := Lib.hid hvb
    clear hE3 ho3 hvb hb3 hne hW3
    refine hins.mono ?_
    rintro e w4 ⟨s4, rfl, hown4, hwr4, -⟩
    have hes := HO3.out.inserted (by have := HLEN.out; omega) (Nat.le_trans hbase HE3.out.size) (x := ⟨k, v, sl, so⟩) HVB.out hkm (by omega) hown4 hwr4
    have hl : (xs'.take p ++ ⟨k, v, sl, so⟩ :: xs'.drop p).length = xs'.length + 1 := by have := HLEN.out; simp; omega
    have hm : (xs'.take p ++ ⟨k, v, sl, so⟩ :: xs'.drop p).map LE.ent = insE es k v := by
      rw [HI2.out, ← HXS.out, List.map_append, List.map_cons, List.map_take, List.map_drop]; rfl
    have hsp := splitE_any hes (risingN_of (by rw [hm]; exact insE_sorted HS.out k v)) (by omega)
    rw [hl, hm] at hsp
    have hE4 : Ext w w4 := (HX2.out.trans HE3.out).wr hwr4 fun i hi => by
      have := (HO3.out.own.lt i (by obtain ⟨a, c⟩ := s'; cases a <;> simp_all [Value.ownBlock, Sl.row])).1
      omega
    have HSP := Lib.hid hsp
    have HE4 := Lib.hid hE4
    clear hes hsp hE4 hown4 hwr4 hl hm hins
    go_wp2_with fail
    refine HSP.out.mono ?_
    rintro e w5 ⟨ts, rfl, h1, h2, h3⟩
    have H2 := Lib.hid h2
    have H1 := Lib.hid h1
    clear h2
    rcases two_cases h1 with ⟨a, rfl⟩ | ⟨a, b, rfl⟩
    all_goals
      clear h1
      simp only [two]
      go_wp2_with fail
      go_ret2
      exact with0_end HE4.out H1.out H2.out h3
  · have htp : (es[p]?).map Prod.fst = some k := of_decide_eq_true ht
    have hpl : p < xs'.length := by
      cases hq : es[p]? with
      | none => rw [hq] at htp; cases htp
      | some x => rw [HLEN.out]; exact (List.getElem?_eq_some_iff.1 hq).1
    obtain ⟨g, cap, rfl, hbg, hnc, hcm, hfil⟩ := ho2.block (by omega)
    have hvb : RV w2 (Lt W0.heap.size) v sl so := (HV.out.agree (HX2.out.agree fun _ h => h)).mono fun i hi => Nat.lt_of_lt_of_le hi (by rw [hz0]; exact Nat.le_succ _)
    have hes := HO2.out.set hbg hbase hnc hcm hfil hpl hvb hkm
    have hm : (xs'.set p ⟨k, v, sl, so⟩).map LE.ent = insE es k v := by
      rw [HI.out, if_pos htp, ← HXS.out, List.map_set, List.set_eq_take_append_cons_drop, if_pos (by simpa using hpl)]; rfl
    have hsp := splitE_any (w := putM w2 g (p * 7) k v sl so) (hes.mono fun i hi => by rw [putM_size]; exact hi) (risingN_of (by rw [hm]; exact insE_sorted HS.out k v)) (by rw [List.length_set]; omega)
    rw [hm, List.length_set] at hsp
    have hE4 : Ext w (putM w2 g (p * 7) k v sl so) := HX2.out.putM (by omega) _ _ _ _ _
    have HE4 := Lib.hid hE4
    obtain ⟨x0, hx0⟩ : ∃ v, w2.cell? ⟨g, p * 7, none⟩ = some v := hfil.cell (by omega)
    obtain ⟨x1, hx1⟩ : ∃ v, w2.cell? ⟨g, p * 7 + 1, none⟩ = some v := hfil.cell (by omega)
    obtain ⟨x2, hx2⟩ : ∃ v, w2.cell? ⟨g, p * 7 + 2, none⟩ = some v := hfil.cell (by omega)
    obtain ⟨x3, hx3⟩ : ∃ v, w2.cell? ⟨g, p * 7 + 3, none⟩ = some v := hfil.cell (by omega)
    obtain ⟨x4, hx4⟩ : ∃ v, w2.cell? ⟨g, p * 7 + 4, none⟩ = some v := hfil.cell (by omega)
    obtain ⟨x5, hx5⟩ : ∃ v, w2.cell? ⟨g, p * 7 + 5, none⟩ = some v := hfil.cell (by omega)
    obtain ⟨x6, hx6⟩ : ∃ v, w2.cell? ⟨g, p * 7 + 6, none⟩ = some v := hfil.cell (by omega)
    have hff := hfil.frozen
    have hpl' : (p : Int) < (xs'.length : Int) := by omega
    have HSP := Lib.hid hsp
    have hgl := hfil.lt
    clear hes hsp hfil ho2 hvb hm hE4
    go_wp2_with fail
    change Calls _ _ _ (putM w2 g (p * 7) k v sl so) _
    refine HSP.out.mono ?_
    rintro e w5 ⟨ts, rfl, h1, h2, h3⟩
    have H2 := Lib.hid h2
    have H1 := Lib.hid h1
    clear h2
    rcases two_cases h1 with ⟨a, rfl⟩ | ⟨a, b, rfl⟩
    all_goals
      clear h1
      simp only [two]
      go_wp2_with fail
      go_ret2
      exact with0_end HE4.out H1.out H2.out h3
end Go.Proofs.Ytohajcflklejjaa
namespace Go.Proofs.Ytohajcflklejjaa
open Go.RowKit
set_option linter.unusedVariables false
set_option linter.unusedSimpArgs false
theorem own_row {w : World} {base e size n : Nat} {s : Sl} {xs : List Value} (h : w.ownsRow base e size (.slice s.a n s.c) n xs) {b : Nat} (hb : s.row = some b) : base ≤ b ∧ b < w.heap.size :=
  h.lt b (by obtain ⟨a, c⟩ := s; cases a <;> simp_all [Value.ownBlock, Sl.row])
theorem own_block {w : World} {base e size n : Nat} {s : Sl} {xs : List Value} (h : w.ownsRow base e size (.slice s.a n s.c) n xs) (hn : 0 < n) : ∃ g cap, s = ⟨some ⟨g, 0, none⟩, cap⟩ ∧ base ≤ g ∧ n ≤ cap ∧ cap ≤ maxLen ∧ Filling w g e size cap := by
  rcases h.2 with ⟨hv, h0⟩ | ⟨g, cap, cur, hv, hbg, hg, hnc, hcm, hcs, -⟩
  · omega
  · simp only [Value.slice.injEq] at hv
    exact ⟨g, cap, by obtain ⟨a, c⟩ := s; simp_all, hbg, hnc, hcm, cur, hg, hcs⟩
theorem own_set {w : World} {base e n g cap : Nat} {xs : List Value} (h : w.ownsRow base e 1 (.slice (some ⟨g, 0, none⟩) n cap) n xs) {i : Nat} (hi : i < n) (u : Value) : (w.setCell ⟨g, i, none⟩ u).ownsRow base e 1 (.slice (some ⟨g, 0, none⟩) n cap) n (xs.set i u) := by
  rcases h.2 with ⟨hv, h0⟩ | ⟨g', cap', cur, hv, hbg, hg, hnc, hcm, hcs, ht⟩
  · omega
  · simp only [Value.slice.injEq, Option.some.injEq, Addr.mk.injEq, and_true, true_and] at hv
    obtain ⟨rfl, rfl⟩ := hv
    refine ⟨by rw [List.length_set]; exact h.1, .inr ⟨g, cap, cur.setIfInBounds i u, rfl, hbg, Blk.set_ (show Blk w g e cur from hg) i u, hnc, hcm, by rw [Array.size_setIfInBounds]; exact hcs, ?_⟩⟩
    rw [Array.toList_setIfInBounds, List.take_set, ht]
theorem size_le8 : ∀ {h : Nat} {t : PT h}, OkT h t → size h t ≤ 8
  | 0, _, ok => ok
  | _ + 1, _, ok => ok.2.1
theorem kids_ents {B : Nat} {k : ByteArray} {v : Val} {h : Nat} {t : PT (h + 1)} {kid : PT h} {rs : List (PT h)} (hk : t.2[whichK h t.2 k]? = some kid) (hr : WithR B k v h kid rs) (ok : OkT (h + 1) t) (hs : Sorted (ents (h + 1) t)) :
    (t.2.take (whichK h t.2 k) ++ rs ++ t.2.drop (whichK h t.2 k + 1)).flatMap (ents h) = insE (ents (h + 1) t) k v := by
  have hp := kids_pos ok
  obtain ⟨kid', hk', hA, hC⟩ := which_split (h := h) (ks := t.2) hs hp (by have := ok.1; omega) k
  rw [hk] at hk'
  simp only [Option.some.injEq] at hk'
  subst hk'
  have hm := List.mem_of_getElem? hk
  have ih := WithR.ents hr (ok.2.2 kid hm).1 (kid_sorted hs kid hm)
  rw [List.flatMap_append, List.flatMap_append, ih]
  show _ = insE (t.2.flatMap (Proofs.Ytohajcflklejjaa.ents h)) k v
  conv => rhs; rw [take_mid hk]
  rw [List.flatMap_append, List.flatMap_cons, insE_app hA, insE_stop hC, List.append_assoc]
theorem kids_ok {B : Nat} {k : ByteArray} {v : Val} {h : Nat} {t : PT (h + 1)} {kid : PT h} {rs : List (PT h)} (hk : t.2[whichK h t.2 k]? = some kid) (hr : WithR B k v h kid rs) (ok : OkT (h + 1) t) :
    ∀ u ∈ t.2.take (whichK h t.2 k) ++ rs ++ t.2.drop (whichK h t.2 k + 1), OkT h u ∧ 4 ≤ size h u := by
  have hm := List.mem_of_getElem? hk
  obtain ⟨i1, i2⟩ := WithR.ok hr (ok.2.2 kid hm).1
  have hk4 := (ok.2.2 kid hm).2
  intro u hu
  rcases List.mem_append.1 hu with hu | hu
  · rcases List.mem_append.1 hu with hu | hu
    · exact ok.2.2 u (List.mem_of_mem_take hu)
    · exact ⟨(i1 u hu).1, (i1 u hu).2.2 hk4⟩
  · exact ok.2.2 u (List.mem_of_mem_drop hu)
def WithPost (F : Nat → Prop) (h : Nat) (t : PT h) (k : ByteArray) (v : Val) (w : World) (e : Ending) (w' : World) : Prop :=
  ∃ ts : List (PT h), e = two h ts ∧ WithR w.heap.size k v h t ts ∧ (∀ u ∈ ts, IsN w' (Up F w w') h u) ∧ Ext w w'
def WithPost' (F : Nat → Prop) (h : Nat) (t : PT h) (k : ByteArray) (v : Val) (w : World) (e : Ending) (w' : World) : Prop :=
  ∃ (a : PT h) (r : Value) (rs : List (PT h)), e = .returned (.tuple #[ptr h a, r]) ∧ ((r = .pointer none ∧ rs = [a]) ∨ ∃ b, r = ptr h b ∧ rs = [a, b]) ∧ WithR w.heap.size k v h t rs ∧ (∀ u ∈ rs, IsN w' (Up F w w') h u) ∧ Ext w w'
theorem WithPost.apart {F : Nat → Prop} {h : Nat} {t : PT h} {k : ByteArray} {v : Val} {w : World} {e : Ending} {w' : World} (p : WithPost F h t k v w e w') : WithPost' F h t k v w e w' := by
  obtain ⟨ts, rfl, h1, h2, h3⟩ := p
  rcases h1.two with ⟨a, rfl⟩ | ⟨a, b, rfl⟩
  · exact ⟨a, _, _, rfl, .inl ⟨rfl, rfl⟩, h1, h2, h3⟩
  · exact ⟨a, _, _, rfl, .inr ⟨b, rfl, rfl⟩, h1, h2, h3⟩
theorem with_zero {w : World} {F : Nat → Prop} (hF : ∀ b, F b → b < w.heap.size) {t : PT 0} (hn : IsN w F 0 t) (ok : OkT 0 t) (hs : Sorted (ents 0 t)) {k : ByteArray} {v : Val} {sl so : Sl} (hv : RV w (Lt w.heap.size) v sl so) (hkm : k.size ≤ maxLen) :
    Calls Try.prog 39 #[ptr 0 t, aggE k v sl so] w (WithPost F 0 t k v w) := by
  have hn' : IsN w (Lt w.heap.size) 0 t := hn.mono hF
  refine (with_leaf (fun W hW => height_any (hn'.ext hW)) (fun W hW => entries_any (hn'.ext hW)) hs ok hv hkm).mono ?_
  rintro e w' ⟨ts, rfl, h1, h2, h3⟩
  exact ⟨ts, rfl, ⟨h1, fun u hu => (h2 u hu).1⟩, fun u hu => (h2 u hu).2.mono fun i hi => .inr hi, h3⟩
theorem two_cases1 {n : Nat} {L : List (PT n)} {ts : List (PT (n + 1))} (h : ts.map Prod.snd = chunk L) : (∃ a, ts = [a]) ∨ ∃ a b, ts = [a, b] := by
  rcases chunk_two L with ⟨a, ha⟩ | ⟨a, b, ha⟩ <;> rw [ha] at h
  · obtain ⟨x, hx, -⟩ := one1 h; exact .inl ⟨x, hx⟩
  · obtain ⟨x, y, hx, -⟩ := two1 h; exact .inr ⟨x, y, hx⟩
theorem with_end {w w3 w' : World} {F : Nat → Prop} {h : Nat} {t : PT (h + 1)} {k : ByteArray} {v : Val} {i : Nat} {kid : PT h} {rs : List (PT h)} {B : Nat} (hE : Ext w w3) (hi : whichK h t.2 k = i) (hkid : t.2[whichK h t.2 k]? = some kid) (hB : w.heap.size ≤ B) (hwr : WithR B k v h kid rs)
    {ts : List (PT (h + 1))} (h1 : ts.map Prod.snd = chunk (t.2.take i ++ rs ++ t.2.drop (i + 1))) (h2 : ∀ u ∈ ts, w3.heap.size ≤ addr (h + 1) u ∧ IsN w' (Up (Up F w w3) w3 w') (h + 1) u) (h3 : Ext w3 w') : WithPost F (h + 1) t k v w (two (h + 1) ts) w' := by
  subst hi
  refine ⟨ts, rfl, ⟨kid, rs, hkid, hwr.mono hB, h1, fun u hu => Nat.le_trans hE.size (h2 u hu).1⟩, fun u hu => (h2 u hu).2.mono fun i hi => ?_, hE.trans h3⟩
  rcases hi with (hi | hi) | hi
  · exact .inl hi
  · exact .inr ⟨hi.1, Nat.lt_of_lt_of_le hi.2 h3.size⟩
  · exact .inr ⟨Nat.le_trans hE.size hi.1, hi.2⟩
theorem ptrs_set {h : Nat} {ks : List (PT h)} {i : Nat} (hi : i < ks.length) (a : PT h) : (ptrs h ks).set i (ptr h a) = ptrs h (ks.take i ++ [a] ++ ks.drop (i + 1)) := by
  rw [ptrs, ← List.map_set, List.set_eq_take_append_cons_drop, if_pos hi, List.append_assoc]; rfl
theorem ptrs_ins {h : Nat} {ks : List (PT h)} {i : Nat} (hi : i < ks.length) (a b : PT h) : (ptrs h (ks.take i ++ [a] ++ ks.drop (i + 1))).take ((i + 1) * 1) ++ [ptr h b] ++ (ptrs h (ks.take i ++ [a] ++ ks.drop (i + 1))).drop ((i + 1) * 1) = ptrs h (ks.take i ++ [a, b] ++ ks.drop (i + 1)) := by
  have hl : (ptrs h (ks.take i ++ [a])).length = i + 1 := by simp [ptrs]; omega
  have e : ptrs h (ks.take i ++ [a] ++ ks.drop (i + 1)) = ptrs h (ks.take i ++ [a]) ++ ptrs h (ks.drop (i + 1)) := by simp [ptrs]
  rw [e, Nat.mul_one, ← hl, List.take_left, List.drop_left, hl]
  simp [ptrs]
set_option maxRecDepth 100000 in
set_option maxHeartbeats 1000000 in
theorem with_succ {h : Nat} {k : ByteArray} {v : Val} {sl so : Sl} (hkm : k.size ≤ maxLen)
    (ih : ∀ (w : World) (F : Nat → Prop) (t : PT h), (∀ b, F b → b < w.heap.size) → IsN w F h t → OkT h t → Sorted (ents h t) → (ents h t).length ≤ 1000000 → RV w (Lt w.heap.size) v sl so → Calls Try.prog 39 #[ptr h t, aggE k v sl so] w (WithPost F h t k v w))
    {w : World} {F : Nat → Prop} {t : PT (h + 1)} (hF : ∀ b, F b → b < w.heap.size) (hn : IsN w F (h + 1) t) (ok : OkT (h + 1) t) (hs : Sorted (ents (h + 1) t)) (hc : (ents (h + 1) t).length ≤ 1000000) (hv : RV w (Lt w.heap.size) v sl so) :
    Calls Try.prog 39 #[ptr (h + 1) t, aggE k v sl so] w (WithPost F (h + 1) t k v w) := by
  have hpos := kids_pos ok
  have hh : h + 1 < 1000000 := Nat.lt_of_lt_of_le (height_lt (h + 1) t ok (by have := ok.1; show 1 ≤ t.2.length; omega)) hc
  obtain ⟨kid, hkid, hA, hC⟩ := which_split (h := h) (ks := t.2) hs hpos (by have := ok.1; omega) k
  have hkm' := List.mem_of_getElem? hkid
  have hil := (List.getElem?_eq_some_iff.1 hkid).1
  have hlen2 := ok.1
  have hlen8 := ok.2.1
  have hks : ∀ x ∈ t.2, IsN w F h x := hn.2.choose_spec.2.2
  have hkc : (ents h kid).length ≤ 1000000 := Nat.le_trans (by
    show _ ≤ (t.2.flatMap (ents h)).length
    rw [take_mid hkid]; simp only [List.flatMap_append, List.flatMap_cons, List.length_append]; omega) hc
  have hih : ∀ W, Ext w W → Calls Try.prog 39 #[ptr h kid, aggE k v sl so] W (WithPost' F h kid k v W) := fun W hW =>
    (ih W F kid (fun b hb => Nat.lt_of_lt_of_le (hF b hb) hW.size) ((hks kid hkm').agree (hW.agree hF)) (ok.2.2 kid hkm').1 (kid_sorted hs kid hkm') hkc ((hv.agree (hW.agree fun _ h => h)).mono fun i hi => Nat.lt_of_lt_of_le hi hW.size)).mono fun _ _ p => p.apart
  have HF := Lib.hid hF
  have HN := Lib.hid hn
  have HOK := Lib.hid ok
  have HS := Lib.hid hs
  have HC := Lib.hid hc
  have HP := Lib.hid hpos
  have HIH := Lib.hid hih
  have HKS := Lib.hid hks
  have HKID := Lib.hid hkid
  have hnz : (((h : Int) + 1) == 0) = false := beq_eq_false_iff_ne.2 (by omega)
  clear hF hn ok hs hc hpos hih hks hkid hA hC hv ih hkc
  go_enter Try.func39, Try.ntmps39
  go_wp2_with fail
  have hx0 : Ext w (w.alloc (.cells #[.string k, .int .i64 v.kind, .bool v.b, .int .i64 v.i, .string v.t, .slice sl.a v.l.length sl.c, .slice so.a v.ok.length so.c] 63)) := (Ext.refl w).alloc _ _
  have hb0 := Blk.new w 63 #[.string k, .int .i64 v.kind, .bool v.b, .int .i64 v.i, .string v.t, .slice sl.a v.l.length sl.c, .slice so.a v.ok.length so.c]
  generalize hW0 : World.alloc _ _ = W0 at *
  have hz0 : W0.heap.size = w.heap.size + 1 := by rw [← hW0]; simp
  clear hW0
  have hnW : IsN W0 F (h + 1) t := HN.out.agree (hx0.agree HF.out)
  refine (height_any hnW).mono ?_
  rintro e w1 ⟨rfl, rfl⟩
  have hkc := kids_any hnW (by omega)
  clear hnW
  go_wp2_with fail
  refine hkc.mono ?_
  rintro e w1 ⟨s', rfl, hown, hx1⟩
  have hX1 := hx0.trans hx1
  have hb1 := hb0.ext hx1
  obtain ⟨c0, c1, c2, c3, c4, c5, c6⟩ := hb1.c7
  have hrd : Rd w1 (Lt w1.heap.size) 1 s' t.2.length (ptrs h t.2) := (Rd.of_own hown).mono fun i hi => hi.2
  have hwh := which_any hrd (fun x hx => (HKS.out x hx).agree (hX1.agree HF.out)) (fun b hb => Nat.lt_of_lt_of_le (HF.out b hb) hX1.size) HP.out k HS.out (by omega)
  obtain ⟨i, hi⟩ : ∃ i, whichK h t.2 k = i := ⟨_, rfl⟩
  rw [hi] at hwh hil
  have HI := Lib.hid hi
  have HWH := Lib.hid hwh
  have HO1 := Lib.hid hown
  have HB1 := Lib.hid hb1
  have HX1 := Lib.hid hX1
  have HX01 := Lib.hid hx1
  clear hi hwh hown hb1 hX1 hrd hkc hb0 hx0 hx1
  go_wp2_with fail
  refine HWH.out.mono ?_
  rintro e w2 ⟨rfl, hx2⟩
  clear c0 c1 c2 c3 c4 c5 c6
  obtain ⟨d0, d1, d2, d3, d4, d5, d6⟩ := (HB1.out.ext hx2).c7
  have hbl := HB1.out.lt
  have hbl2 := (HB1.out.ext hx2).lt
  have hX2 := HX1.out.trans hx2
  obtain ⟨g, cap, rfl, hbg, hnc, hcm, hfil⟩ := own_block HO1.out (by omega)
  have ho2 : w2.ownsRow W0.heap.size 30 1 (.slice (some ⟨g, 0, none⟩) t.2.length cap) t.2.length (ptrs h t.2) := own_agree HO1.out (hx2.agree (F := Lt w1.heap.size) fun _ h => h) fun b hb => (own_row HO1.out hb).2
  have hkp : w2.cell? ⟨g, i, none⟩ = some (ptr h kid) := by
    have := ho2.cells (g := g) rfl i (ptr h kid) (by rw [ptrs, List.getElem?_map, ← HI.out, HKID.out]; rfl)
    rwa [add_at, Nat.zero_add] at this
  have hil' : (i : Int) < (t.2.length : Int) := by omega
  have HO2 := Lib.hid ho2
  have HX2 := Lib.hid hX2
  have hg2 : g < w2.heap.size := (own_row (s := ⟨some ⟨g, 0, none⟩, cap⟩) ho2 rfl).2
  have hfz : ∀ o, w2.frozen? ⟨g, o, none⟩ = false := fun o => by rw [hx2.frozen hfil.lt]; exact hfil.frozen o
  clear hx2 ho2 hX2 hfil
  go_wp2_with fail
  go_region_held3 (fun w' => w'.cell? ⟨g, i, none⟩ = some (ptr h kid) ∧ w'.cell? ⟨w.heap.size, 0, none⟩ = some (.string k) ∧ w'.cell? ⟨w.heap.size, 1, none⟩ = some (.int .i64 v.kind) ∧ w'.cell? ⟨w.heap.size, 2, none⟩ = some (.bool v.b) ∧ w'.cell? ⟨w.heap.size, 3, none⟩ = some (.int .i64 v.i) ∧ w'.cell? ⟨w.heap.size, 4, none⟩ = some (.string v.t) ∧ w'.cell? ⟨w.heap.size, 5, none⟩ = some (.slice sl.a v.l.length sl.c) ∧ w'.cell? ⟨w.heap.size, 6, none⟩ = some (.slice so.a v.ok.length so.c)) (go_keep)
    ((go_at_call 39; refine (HIH.out _ HX2.out.drew).mono ?_; rintro e w3 ⟨a, r, rs, rfl, hr, hwr, hwn, hx3⟩; have HR := Lib.hid hr; have HWR := Lib.hid hwr; have HWN := Lib.hid hwn; clear hr hwr hwn; have ho3 : (∀ b o, b < w2.heap.size → w3.cell? ⟨b, o, none⟩ = w2.cell? ⟨b, o, none⟩) := fun b o hb => hx3.cell (show b < w2.drew.heap.size from hb)))
  have hX23 : Ext w2 w3 := ((Ext.refl w2).drew).trans hx3
  have hg3 : g < w3.heap.size := Nat.lt_of_lt_of_le hg2 hX23.size
  have hkp3 := (hX23.cell (o := i) hg2).trans hkp
  have hfz3 : w3.frozen? ⟨g, i, none⟩ = false := (hX23.frozen hg2).trans (hfz i)
  have HX23 := Lib.hid hX23
  have HX2D := Lib.hid hx3
  clear hX23 hx3 hkp hfz ho3 d0 d1 d2 d3 d4 d5 d6
  have ho3 : w3.ownsRow W0.heap.size 30 1 (.slice (some ⟨g, 0, none⟩) t.2.length cap) t.2.length (ptrs h t.2) := own_agree (s := ⟨some ⟨g, 0, none⟩, cap⟩) HO2.out (HX23.out.agree (F := Lt w2.heap.size) fun _ h => h) fun b hb => (own_row (s := ⟨some ⟨g, 0, none⟩, cap⟩) HO2.out hb).2
  have ho4 := own_set ho3 hil (ptr h a)
  rw [ptrs_set hil] at ho4
  have hX4 : Ext w (w3.setCell ⟨g, i, none⟩ (ptr h a)) := (HX2.out.trans HX23.out).setCell (p := ⟨g, i, none⟩) (by show w.heap.size ≤ g; omega) _
  have hag4 : Agree (Up F w2.drew w3) w3 (w3.setCell ⟨g, i, none⟩ (ptr h a)) := Agree.setCell w3 ⟨g, i, none⟩ _ (by
    rintro (hf | hf)
    · have : g < w.heap.size := HF.out g hf
      omega
    · have : w2.heap.size ≤ g := hf.1
      omega)
  have hkids : ∀ W, Ext w W → Agree (Up F w2.drew w3) w3 W → w3.heap.size ≤ W.heap.size → Kids W (Up F w W) h (t.2.take i ++ rs ++ t.2.drop (i + 1)) := fun W hW hag hsz => by
    have hke := kids_ents HKID.out HWR.out HOK.out HS.out
    have hko := kids_ok HKID.out HWR.out HOK.out
    rw [HI.out] at hke hko
    have hso : Sorted ((t.2.take i ++ rs ++ t.2.drop (i + 1)).flatMap (ents h)) := by rw [hke]; exact insE_sorted HS.out k v
    have hps : ∀ x ∈ t.2.take i ++ rs ++ t.2.drop (i + 1), 0 < (ents h x).length := fun x hx => ents_pos h x (hko x hx).1 (by have := (hko x hx).2; omega)
    refine ⟨fun b hb => hb.elim (fun h => Nat.lt_of_lt_of_le (HF.out b h) hW.size) fun h => h.2, fun x hx => ?_, rising_of hso hps, hps, fun x hx => by have := size_le8 (hko x hx).1; omega, by
      have := insE_len (ents (h + 1) t) k v
      have hcc := HC.out
      unfold cnt; rw [hke]; omega, by omega⟩
    rcases List.mem_append.1 hx with hx | hx
    · rcases List.mem_append.1 hx with hx | hx
      · exact ((HKS.out x (List.mem_of_mem_take hx)).agree (hW.agree HF.out)).mono fun _ h => .inl h
      · exact ((HWN.out x hx).agree hag).mono fun b hb => hb.elim .inl fun h => .inr ⟨Nat.le_trans HX2.out.size h.1, Nat.lt_of_lt_of_le h.2 hsz⟩
    · exact ((HKS.out x (List.mem_of_mem_drop hx)).agree (hW.agree HF.out)).mono fun _ h => .inl h
  have HK := Lib.hid hkids
  have HO4 := Lib.hid ho4
  have HX4 := Lib.hid hX4
  have HA4 := Lib.hid hag4
  have hB2 : w.heap.size ≤ w2.drew.heap.size := HX2.out.size
  have hgw : W0.heap.size ≤ w3.heap.size := by omega
  have HB2 := Lib.hid hB2
  clear ho3 ho4 hX4 hag4 hkids hB2
  rcases HR.out with ⟨rfl, rfl⟩ | ⟨b, rfl, rfl⟩
  · have hlen : (t.2.take i ++ [a] ++ t.2.drop (i + 1)).length = t.2.length := by simp; omega
    have hsp := splitP_any (w := w3.setCell ⟨g, i, none⟩ (ptr h a)) (s := ⟨some ⟨g, 0, none⟩, cap⟩) (by rw [hlen]; exact (Rd.of_own HO4.out).mono fun i hi => hi.2) (HK.out _ HX4.out HA4.out (by simp)) (by omega) (by omega)
    rw [hlen] at hsp
    have HSP := Lib.hid hsp
    clear hsp hlen
    go_wp2_with fail
    refine HSP.out.mono ?_
    rintro e w5 ⟨ts, rfl, h1, h2, h3⟩
    have H2 := Lib.hid h2
    have H1 := Lib.hid h1
    clear h2
    rcases two_cases1 h1 with ⟨a', rfl⟩ | ⟨a', b', rfl⟩
    all_goals
      clear h1
      simp only [two]
      go_wp2_with fail
      go_ret2
      exact with_end HX4.out HI.out HKID.out HB2.out HWR.out H1.out H2.out h3
  · have hw1 : IntKind.i64.wrap ((i : Int) + 1) = (i : Int) + 1 := by rw [IntKind.wrap_i64]; omega
    have hlen : (t.2.take i ++ [a] ++ t.2.drop (i + 1)).length = t.2.length := by simp; omega
    have hlen2' : (t.2.take i ++ [a, b] ++ t.2.drop (i + 1)).length = t.2.length + 1 := by simp; omega
    have hE5 : Ext (w3.setCell ⟨g, i, none⟩ (ptr h a)) ((w3.setCell ⟨g, i, none⟩ (ptr h a)).alloc (.cells #[ptr h b] 30)) := (Ext.refl _).alloc _ _
    have hb5 : Blk ((w3.setCell ⟨g, i, none⟩ (ptr h a)).alloc (.cells #[ptr h b] 30)) w3.heap.size 30 [ptr h b].toArray := by
      have := Blk.new (w3.setCell ⟨g, i, none⟩ (ptr h a)) 30 #[ptr h b]
      rwa [World.size_setCell] at this
    go_wp2_with fail
    change Calls _ _ _ ((w3.setCell ⟨g, i, none⟩ (ptr h a)).alloc (.cells #[ptr h b] 30)) _
    have ho5 : ((w3.setCell ⟨g, i, none⟩ (ptr h a)).alloc (.cells #[ptr h b] 30)).ownsRow W0.heap.size 30 1 (.slice (some ⟨g, 0, none⟩) t.2.length cap) t.2.length (ptrs h (t.2.take i ++ [a] ++ t.2.drop (i + 1))) := own_agree (s := ⟨some ⟨g, 0, none⟩, cap⟩) HO4.out (hE5.agree (F := Lt w3.heap.size) fun i hi => by rw [World.size_setCell]; exact hi) fun b hb => by
      have := (own_row (s := ⟨some ⟨g, 0, none⟩, cap⟩) HO4.out hb).2
      rwa [World.size_setCell] at this
    have hag5 : Agree (Up F w2.drew w3) w3 ((w3.setCell ⟨g, i, none⟩ (ptr h a)).alloc (.cells #[ptr h b] 30)) := HA4.out.trans (hE5.agree fun j hj => by rw [World.size_setCell]; exact hj.elim (fun hh => Nat.lt_of_lt_of_le (HF.out j hh) (by have := HX2.out.size; have := HX23.out.size; omega)) fun hh => hh.2)
    have hX5 := HX4.out.trans hE5
    have hz5 : ((w3.setCell ⟨g, i, none⟩ (ptr h a)).alloc (.cells #[ptr h b] 30)).heap.size = w3.heap.size + 1 := by simp
    generalize (w3.setCell ⟨g, i, none⟩ (ptr h a)).alloc (.cells #[ptr h b] 30) = W5 at *
    have hins := insN_any (w := W5) (base := W0.heap.size) (n := t.2.length) (i := i + 1) (s := ⟨some ⟨g, 0, none⟩, cap⟩) (xs := ptrs h (t.2.take i ++ [a] ++ t.2.drop (i + 1))) (ys := [ptr h b]) (vb := w3.heap.size) ho5 (by omega) (by omega) (by omega) rfl hb5 (by simp [Sl.row]; omega) (by simp [Value.oneCell']) (ptrs_one _ _)
    have H5 := Lib.hid hX5
    have HG5 := Lib.hid hag5
    clear hX5 hag5 hb5 ho5 hE5
    refine hins.mono ?_
    rintro e w6 ⟨s6, rfl, hown6, hwr6, -⟩
    rw [ptrs_ins hil] at hown6
    have hX6 : Ext w w6 := H5.out.wr hwr6 fun j hj => by simp [Sl.row] at hj; omega
    have hag6 : Agree (Up F w2.drew w3) w3 w6 := HG5.out.trans (hwr6.agree (fun j hj => by rw [hz5]; exact hj.elim (fun hh => Nat.lt_of_lt_of_le (HF.out j hh) (by have := HX2.out.size; have := HX23.out.size; omega)) fun hh => Nat.lt_succ_of_lt hh.2) (fun j hj => by
      simp [Sl.row] at hj; subst hj
      rintro (hf | hf)
      · have : g < w.heap.size := HF.out g hf
        omega
      · have : w2.heap.size ≤ g := hf.1
        omega))
    have hsp := splitP_any (w := w6) (s := s6) (by rw [hlen2']; exact (Rd.of_own hown6).mono fun i hi => hi.2) (HK.out _ hX6 hag6 (by have := hwr6.grown.size; omega)) (by omega) (by omega)
    rw [hlen2'] at hsp
    have HSP := Lib.hid hsp
    have HX6 := Lib.hid hX6
    clear hsp hlen hlen2' hX6 hag6 hown6 hwr6 hins
    go_wp2_with fail
    refine HSP.out.mono ?_
    rintro e w7 ⟨ts, rfl, h1, h2, h3⟩
    have H2 := Lib.hid h2
    have H1 := Lib.hid h1
    clear h2
    rcases two_cases1 h1 with ⟨a', rfl⟩ | ⟨a', b', rfl⟩
    all_goals
      clear h1
      simp only [two]
      go_wp2_with fail
      go_ret2
      exact with_end HX6.out HI.out HKID.out HB2.out HWR.out H1.out H2.out h3
end Go.Proofs.Ytohajcflklejjaa
namespace Go.Proofs.Ytohajcflklejjaa
open Go.RowKit
set_option linter.unusedVariables false
set_option linter.unusedSimpArgs false
theorem with_any {k : ByteArray} {v : Val} {sl so : Sl} (hkm : k.size ≤ maxLen) : ∀ (h : Nat) (w : World) (F : Nat → Prop) (t : PT h), (∀ b, F b → b < w.heap.size) → IsN w F h t → OkT h t → Sorted (ents h t) → (ents h t).length ≤ 1000000 → RV w (Lt w.heap.size) v sl so →
    Calls Try.prog 39 #[ptr h t, aggE k v sl so] w (WithPost F h t k v w)
  | 0, w, F, t, hF, hn, ok, hs, hc, hv => with_zero hF hn ok hs hv hkm
  | h + 1, w, F, t, hF, hn, ok, hs, hc, hv => with_succ hkm (with_any hkm h) hF hn ok hs hc hv
abbrev RT := Option (Σ h, PT h)
def rootV : RT → Value
  | none => .pointer none
  | some ⟨h, t⟩ => ptr h t
abbrev treeV (T : RT) : Value := .agg #[rootV T]
def entsT : RT → List Ent
  | none => []
  | some ⟨h, t⟩ => ents h t
def OkR : RT → Prop
  | none => True
  | some ⟨h, t⟩ => OkT h t ∧ 1 ≤ size h t ∧ Sorted (ents h t)
def IsT (w : World) (F : Nat → Prop) : RT → Prop
  | none => True
  | some ⟨h, t⟩ => IsN w F h t
theorem IsT.agree {w w' : World} {F : Nat → Prop} {T : RT} (h : IsT w F T) (ha : Agree F w w') : IsT w' F T := by
  match T, h with
  | none, _ => trivial
  | some ⟨n, t⟩, h => exact IsN.agree ha h
theorem IsT.mono {w : World} {F G : Nat → Prop} {T : RT} (h : IsT w F T) (hG : ∀ i, F i → G i) : IsT w G T := by
  match T, h with
  | none, _ => trivial
  | some ⟨n, t⟩, h => exact IsN.mono hG h
theorem OkR.sorted {T : RT} (h : OkR T) : Sorted (entsT T) := by
  match T, h with
  | none, _ => exact List.Pairwise.nil
  | some ⟨n, t⟩, h => exact h.2.2
inductive WithRT (B : Nat) (k : ByteArray) (v : Val) : RT → (h : Nat) → List (PT h) → Prop
  | none (u : PT 0) (h : u.2 = [(k, v)]) (hb : B ≤ u.1) : WithRT B k v none 0 [u]
  | some {h : Nat} {t : PT h} {ts : List (PT h)} (hw : WithR B k v h t ts) : WithRT B k v (some ⟨h, t⟩) h ts
theorem WithRT.mono {A B : Nat} (hAB : A ≤ B) {k : ByteArray} {v : Val} {T : RT} {h : Nat} {ts : List (PT h)} (hw : WithRT B k v T h ts) : WithRT A k v T h ts := by
  cases hw with
  | none u hu hb => exact .none u hu (Nat.le_trans hAB hb)
  | some hw => exact .some (hw.mono hAB)
theorem WithRT.height {B : Nat} {k : ByteArray} {v : Val} {T : RT} {h : Nat} {ts : List (PT h)} (hw : WithRT B k v T h ts) (ok : OkR T) : h ≤ (entsT T).length := by
  cases hw with
  | none u hu hb => exact Nat.zero_le _
  | some hw => exact Nat.le_of_lt (height_lt _ _ ok.1 ok.2.1)
inductive PutR (B : Nat) (k : ByteArray) (v : Val) : RT → RT → Prop
  | one {T : RT} {h : Nat} {a : PT h} (hw : WithRT B k v T h [a]) : PutR B k v T (some ⟨h, a⟩)
  | two {T : RT} {h : Nat} {a b : PT h} {c : PT (h + 1)} (hw : WithRT B k v T h [a, b]) (hc : c.2 = [a, b]) (hb : B ≤ addr (h + 1) c) : PutR B k v T (some ⟨h + 1, c⟩)
theorem WithRT.ents {B : Nat} {k : ByteArray} {v : Val} {T : RT} {h : Nat} {ts : List (PT h)} (hw : WithRT B k v T h ts) (ok : OkR T) : ts.flatMap (Proofs.Ytohajcflklejjaa.ents h) = insE (entsT T) k v := by
  cases hw with
  | none u hu hb =>
    show u.2 ++ [] = _
    rw [hu]; rfl
  | some hw => exact hw.ents ok.1 ok.2.2
theorem WithRT.ok {B : Nat} {k : ByteArray} {v : Val} {T : RT} {h : Nat} {ts : List (PT h)} (hw : WithRT B k v T h ts) (ok : OkR T) : (∀ u ∈ ts, OkT h u ∧ 1 ≤ size h u) ∧ (2 ≤ ts.length → ∀ u ∈ ts, 4 ≤ size h u) := by
  cases hw with
  | none u hu hb =>
    refine ⟨fun x hx => ?_, fun h => by simp at h⟩
    obtain rfl : x = u := by simpa using hx
    exact ⟨show x.2.length ≤ 8 by rw [hu]; simp, show 1 ≤ x.2.length by rw [hu]; simp⟩
  | some hw => exact ⟨fun u hu => ⟨(hw.ok ok.1).1 u hu |>.1, ((hw.ok ok.1).1 u hu).2.1⟩, (hw.ok ok.1).2⟩
theorem PutR.ents {B : Nat} {k : ByteArray} {v : Val} {T T' : RT} (hp : PutR B k v T T') (ok : OkR T) : entsT T' = insE (entsT T) k v := by
  cases hp with
  | one hw => have := hw.ents ok; simpa [entsT] using this
  | two hw hc hb =>
    rename_i h a b c
    have := hw.ents ok
    rw [← this, ← hc]; rfl
theorem PutR.ok {B : Nat} {k : ByteArray} {v : Val} {T T' : RT} (hp : PutR B k v T T') (ok : OkR T) : OkR T' := by
  have hs : Sorted (entsT T') := by rw [hp.ents ok]; exact insE_sorted ok.sorted k v
  cases hp with
  | one hw => rename_i h a; exact ⟨((hw.ok ok).1 a (by simp)).1, ((hw.ok ok).1 a (by simp)).2, hs⟩
  | two hw hc hb =>
    rename_i h a b c
    have h1 := hw.ok ok
    refine ⟨⟨by rw [hc]; simp, by rw [hc]; simp, fun x hx => ?_⟩, show 1 ≤ c.2.length by rw [hc]; simp, hs⟩
    rw [hc] at hx
    exact ⟨(h1.1 x hx).1, h1.2 (by simp) x hx⟩
theorem Rd.of_blk {w : World} {g : Nat} {t : TypeId} {cs : List Value} (hb : Blk w g t cs.toArray) (hm : cs.length ≤ maxLen) : Rd w (fun b => b = g) 1 ⟨some ⟨g, 0, none⟩, cs.length⟩ cs.length cs :=
  ⟨g, 0, .some _ _ _ _ (Nat.le_refl _) hm rfl, (Nat.mul_one _).symm, fun j u hj => by rw [Nat.zero_add, hb.cell]; simpa using hj⟩
def WithPostT (F : Nat → Prop) (T : RT) (k : ByteArray) (v : Val) (w : World) (e : Ending) (w' : World) : Prop :=
  ∃ (h : Nat) (a : PT h) (r : Value) (rs : List (PT h)), e = .returned (.tuple #[ptr h a, r]) ∧ ((r = .pointer none ∧ rs = [a]) ∨ ∃ b, r = ptr h b ∧ rs = [a, b]) ∧ WithRT w.heap.size k v T h rs ∧ (∀ u ∈ rs, IsN w' (Up F w w') h u) ∧ Ext w w'
theorem withT_any {w : World} {F : Nat → Prop} {T : RT} (hF : ∀ b, F b → b < w.heap.size) (hT : IsT w F T) (ok : OkR T) (hc : (entsT T).length ≤ 1000000) {k : ByteArray} {v : Val} {sl so : Sl} (hkm : k.size ≤ maxLen) (hv : RV w (Lt w.heap.size) v sl so) :
    Calls Try.prog 39 #[rootV T, aggE k v sl so] w (WithPostT F T k v w) := by
  match T, hT, ok, hc with
  | none, _, _, _ =>
    refine (with_leaf (nv := .pointer none) (es := []) (fun W hW => (height_nil W)) (fun W hW => (entries_nil W).mono ?_) List.Pairwise.nil (by simp) hv hkm).mono ?_
    · rintro e w' ⟨rfl, rfl⟩
      exact ⟨Sl.none, [], rfl, rfl, OE.nil _ _, Ext.refl _⟩
    · rintro e w' ⟨ts, rfl, h1, h2, h3⟩
      obtain ⟨u, rfl, hu⟩ := one0 (h1.trans (show chunk (insE [] k v) = [[(k, v)]] from rfl))
      exact ⟨0, u, _, _, rfl, .inl ⟨rfl, rfl⟩, .none u hu (h2 u (by simp)).1, fun x hx => (h2 x hx).2.mono fun i hi => .inr hi, h3⟩
  | some ⟨h, t⟩, hT, ok, hc =>
    refine (with_any hkm h w F t hF hT ok.1 ok.2.2 hc hv).mono ?_
    intro e w' p
    obtain ⟨a, r, rs, rfl, h1, h2, h3, h4⟩ := p.apart
    exact ⟨h, a, r, rs, rfl, h1, .some h2, h3, h4⟩
def PutPost (F : Nat → Prop) (T : RT) (k : ByteArray) (v : Val) (w : World) (e : Ending) (w' : World) : Prop :=
  ∃ T', e = .returned (treeV T') ∧ PutR w.heap.size k v T T' ∧ IsT w' (Up F w w') T' ∧ Ext w w'
set_option maxRecDepth 100000 in
set_option maxHeartbeats 1000000 in
theorem put_any {w : World} {F : Nat → Prop} {T : RT} (hF : ∀ b, F b → b < w.heap.size) (hT : IsT w F T) (ok : OkR T) (hc : (entsT T).length ≤ 1000000) {k : ByteArray} {v : Val} {sl so : Sl} (hkm : k.size ≤ maxLen) (hv : RV w (Lt w.heap.size) v sl so) :
    Calls Try.prog 25 #[treeV T, .string k, aggV v sl so] w (PutPost F T k v w) := by
  have hcw : ∀ W, Ext w W → Calls Try.prog 39 #[rootV T, aggE k v sl so] W (WithPostT F T k v W) := fun W hW =>
    withT_any (fun b hb => Nat.lt_of_lt_of_le (hF b hb) hW.size) (hT.agree (hW.agree hF)) ok hc hkm ((hv.agree (hW.agree fun _ h => h)).mono fun i hi => Nat.lt_of_lt_of_le hi hW.size)
  have HW := Lib.hid hcw
  have HF := Lib.hid hF
  have HOK := Lib.hid ok
  clear hF hT ok hv hcw
  go_enter Try.func25, Try.ntmps25
  go_wp2_with fail
  have hx3 : Ext w (((w.alloc (.cells #[rootV T] 32)).alloc (.cells #[.int .i64 v.kind, .bool v.b, .int .i64 v.i, .string v.t, .slice sl.a v.l.length sl.c, .slice so.a v.ok.length so.c] 51)).alloc (.cells #[.pointer none] 32)) := (((Ext.refl w).alloc _ _).alloc _ _).alloc _ _
  have hb3 : Blk (((w.alloc (.cells #[rootV T] 32)).alloc (.cells #[.int .i64 v.kind, .bool v.b, .int .i64 v.i, .string v.t, .slice sl.a v.l.length sl.c, .slice so.a v.ok.length so.c] 51)).alloc (.cells #[.pointer none] 32)) (w.heap.size + 1 + 1) 32 #[.pointer none] := by
    have := Blk.new ((w.alloc (.cells #[rootV T] 32)).alloc (.cells #[.int .i64 v.kind, .bool v.b, .int .i64 v.i, .string v.t, .slice sl.a v.l.length sl.c, .slice so.a v.ok.length so.c] 51)) 32 #[.pointer none]
    simpa using this
  generalize hW3 : World.alloc _ _ = W3 at *
  have hz3 : W3.heap.size = w.heap.size + 1 + 1 + 1 := by rw [← hW3]; simp
  clear hW3
  refine (HW.out _ hx3).mono ?_
  rintro e w4 ⟨h, a, r, rs, rfl, hr, hwr, hwn, hx4⟩
  have hb4 := hb3.ext hx4
  have hX4 := hx3.trans hx4
  have q4 : w4.cell? ⟨w.heap.size + 1 + 1, 0, none⟩ = some (.pointer none) := hb4.cell 0
  have f4 := hb4.frozen 0
  have hl4 := hb4.lt
  have HWR := Lib.hid hwr
  have HWN := Lib.hid hwn
  have HX := Lib.hid hX4
  have HXX := Lib.hid hx4
  have HB4 := Lib.hid hb4
  have hnF : ∀ W', ¬ Up F W3 W' (w.heap.size + 1 + 1) := fun W' hf => by
    rcases hf with hf | hf
    · have := HF.out _ hf; omega
    · have := hf.1; omega
  have HNF := Lib.hid hnF
  have hwW : w.heap.size ≤ W3.heap.size := by omega
  clear hb3 hb4 hwr hwn hX4 hx3 hx4 hnF
  rcases hr with ⟨rfl, rfl⟩ | ⟨b, rfl, rfl⟩
  · go_wp2_with fail
    have q0 : (w4.setCell ⟨w.heap.size + 1 + 1, 0, none⟩ (ptr h a)).cell? ⟨w.heap.size + 1 + 1, 0, none⟩ = some (ptr h a) := World.cell?_setCell_same w4 _ _ q4
    refine bodyPost_ret (v := treeV (some ⟨h, a⟩)) (by simp [results, Try.results25, go_sem, q0]; rfl) rfl ?_
    refine ⟨some ⟨h, a⟩, rfl, .one ?_, ?_, HX.out.setCell (p := ⟨w.heap.size + 1 + 1, 0, none⟩) (by show w.heap.size ≤ w.heap.size + 1 + 1; omega) _⟩
    · exact HWR.out.mono hwW
    · show IsN _ _ h a
      refine ((HWN.out a (by simp)).agree (Agree.setCell w4 ⟨w.heap.size + 1 + 1, 0, none⟩ _ (HNF.out w4))).mono fun i hi => hi.elim .inl fun hi => .inr ⟨Nat.le_trans hwW hi.1, by rw [World.size_setCell]; exact hi.2⟩
  · have hE5 : Ext w4 (w4.alloc (.cells #[ptr h a, ptr h b] 30)) := (Ext.refl _).alloc _ _
    have hb5 : Blk (w4.alloc (.cells #[ptr h a, ptr h b] 30)) w4.heap.size 30 (ptrs h [a, b]).toArray := Blk.new w4 30 #[ptr h a, ptr h b]
    have hz5 : (w4.alloc (.cells #[ptr h a, ptr h b] 30)).heap.size = w4.heap.size + 1 := by simp
    go_wp2_with fail
    change Calls _ _ _ (w4.alloc (.cells #[ptr h a, ptr h b] 30)) _
    generalize w4.alloc (.cells #[ptr h a, ptr h b] 30) = W5 at *
    have he := HWR.out.ents HOK.out
    have hko := HWR.out.ok HOK.out
    have hps : ∀ x ∈ [a, b], 0 < (ents h x).length := fun x hx => ents_pos h x (hko.1 x hx).1 (hko.1 x hx).2
    have hso : Sorted ([a, b].flatMap (ents h)) := by rw [he]; exact insE_sorted HOK.out.sorted k v
    have hkids : Kids W5 (Up F W3 W5) h [a, b] := by
      refine ⟨fun b hb => hb.elim (fun h => Nat.lt_of_lt_of_le (HF.out b h) (by have := HX.out.size; omega)) fun h => h.2, fun x hx => ?_, rising_of hso hps, hps, fun x hx => by have := size_le8 (hko.1 x hx).1; omega, by
        have := insE_len (entsT T) k v
        unfold cnt; rw [he]; omega, by have := HWR.out.height HOK.out; omega⟩
      exact ((HWN.out x hx).agree (hE5.agree fun i hi => hi.elim (fun h => Nat.lt_of_lt_of_le (HF.out i h) HX.out.size) fun h => h.2)).mono fun i hi => hi.elim .inl fun hi => .inr ⟨hi.1, by omega⟩
    have hin := tinner_any (w := W5) (n := 2) (s := ⟨some ⟨w4.heap.size, 0, none⟩, 2⟩) ((Rd.of_blk hb5 (by simp [ptrs]; decide)).mono fun i hi => by subst hi; omega) rfl hkids (by simp) (by simp)
    have HE5 := Lib.hid hE5
    clear hE5 hb5 he hko hps hso hkids
    refine hin.mono ?_
    rintro e w6 ⟨c, rfl, hc2, hca, hcn, hx6⟩
    have HCN := Lib.hid hcn
    have q6 : w6.cell? ⟨w.heap.size + 1 + 1, 0, none⟩ = some (.pointer none) := ((HE5.out.trans hx6).cell hl4).trans q4
    have f6 : w6.frozen? ⟨w.heap.size + 1 + 1, 0, none⟩ = false := ((HE5.out.trans hx6).frozen hl4).trans f4
    have HX6 := Lib.hid hx6
    clear hin hcn q4 f4 hx6
    go_wp2_with fail
    have q0 : (w6.setCell ⟨w.heap.size + 1 + 1, 0, none⟩ (ptr (h + 1) c)).cell? ⟨w.heap.size + 1 + 1, 0, none⟩ = some (ptr (h + 1) c) := World.cell?_setCell_same w6 _ _ q6
    refine bodyPost_ret (v := treeV (some ⟨h + 1, c⟩)) (by simp [results, Try.results25, go_sem, q0]; rfl) rfl ?_
    have hw5 : w.heap.size ≤ W5.heap.size := by have := HX.out.size; omega
    refine ⟨some ⟨h + 1, c⟩, rfl, .two (HWR.out.mono hwW) hc2 (Nat.le_trans hw5 hca), ?_, ((HX.out.trans HE5.out).trans HX6.out).setCell (p := ⟨w.heap.size + 1 + 1, 0, none⟩) (by show w.heap.size ≤ w.heap.size + 1 + 1; omega) _⟩
    show IsN _ _ (h + 1) c
    refine (HCN.out.agree (Agree.setCell w6 ⟨w.heap.size + 1 + 1, 0, none⟩ _ ?_)).mono fun i hi => ?_
    · rintro (hf | hf)
      · exact HNF.out W5 hf
      · have : W5.heap.size ≤ w.heap.size + 1 + 1 := hf.1
        omega
    · rcases hi with (hi | hi) | hi
      · exact .inl hi
      · exact .inr ⟨Nat.le_trans hwW hi.1, by rw [World.size_setCell]; exact Nat.lt_of_lt_of_le hi.2 HX6.out.size⟩
      · exact .inr ⟨Nat.le_trans hw5 hi.1, by rw [World.size_setCell]; exact hi.2⟩
end Go.Proofs.Ytohajcflklejjaa
namespace Go.Proofs.Ytohajcflklejjaa
open Go.RowKit
set_option linter.unusedVariables false
set_option linter.unusedSimpArgs false
theorem Blk.c3 {w : World} {g : Nat} {t : TypeId} {v0 v1 v2 : Value} (h : Blk w g t #[v0, v1, v2]) : w.cell? ⟨g, 0, none⟩ = some v0 ∧ w.cell? ⟨g, 1, none⟩ = some v1 ∧ w.cell? ⟨g, 2, none⟩ = some v2 := ⟨h.cell 0, h.cell 1, h.cell 2⟩
end Go.Proofs.Ytohajcflklejjaa
namespace Go.Proofs.Ytohajcflklejjaa
open Go.RowKit
set_option linter.unusedVariables false
set_option linter.unusedSimpArgs false
theorem RV.flat (w : World) (F : Nat → Prop) (kind : Int) (b : Bool) (i : Int) (t : ByteArray) (hk : (Lit.int .i64 kind).wf = true) (hi : (Lit.int .i64 i).wf = true) (ht : t.size ≤ maxLen) : RV w F (.mk kind b i t [] [] []) Sl.none Sl.none :=
  .mk 0 0 0 0 (fun _ => (Sl.none, Sl.none)) (fun _ => (Sl.none, Sl.none)) (.nil _ _) (.nil _ _) rfl (fun _ _ h => by simp at h) (fun _ _ h => by simp at h) (fun _ _ h => by simp at h) (fun _ _ h => by simp at h) (fun _ _ h => by simp at h) hk hi ht (by simp) (by simp)
theorem PutR.root {B : Nat} {k : ByteArray} {v : Val} {T T' : RT} (hp : PutR B k v T T') : ∃ a, rootV T' = .pointer (some ⟨a, 0, none⟩) ∧ B ≤ a := by
  cases hp with
  | one hw =>
    rename_i h a
    refine ⟨addr h a, rfl, ?_⟩
    cases hw with
    | none u hu hb => exact hb
    | some hw =>
      cases h with
      | zero => exact hw.2 a (by simp)
      | succ h => obtain ⟨kid, rs, -, -, -, h4⟩ := hw; exact h4 a (by simp)
  | two hw hc hb => rename_i h a b c; exact ⟨addr (h + 1) c, rfl, hb⟩
theorem IsT.lt {w : World} {F : Nat → Prop} {T : RT} (h : IsT w F T) {a : Nat} (ha : rootV T = .pointer (some ⟨a, 0, none⟩)) : a < w.heap.size := by
  match T, h with
  | none, _ => cases ha
  | some ⟨n, t⟩, h =>
    simp only [rootV, ptr, Value.pointer.injEq, Option.some.injEq, Addr.mk.injEq, and_true] at ha
    subst ha
    obtain ⟨-, _, _, _, _, -, hb⟩ := IsN.cells h
    exact hb.lt
def IsB (w : World) (a : Nat) : Prop := ∃ (c : Array Value) (t : TypeId), w.heap[a]? = some (.cells c t (0, 0))
theorem IsB.ext {w w' : World} {a : Nat} (h : IsB w a) (he : Ext w w') : IsB w' a := by
  obtain ⟨c, t, hc⟩ := h
  exact ⟨c, t, (he.heap (Array.getElem?_eq_some_iff.1 hc).1).trans hc⟩
end Go.Proofs.Ytohajcflklejjaa
namespace Go.Proofs.Ytohajcflklejjaa
open Go.RowKit
set_option linter.unusedVariables false
set_option linter.unusedSimpArgs false
end Go.Proofs.Ytohajcflklejjaa
namespace Go.Proofs.Ytohajcflklejjaa
open Go.RowKit
set_option linter.unusedVariables false
set_option linter.unusedSimpArgs false
theorem is_info : ∃ j, Try.prog.info? 68 = some j ∧ j.size ≠ 0 := by
  have h : ((Try.prog.info? 68).map fun i => decide (i.size ≠ 0)) = some true := by kernel_rfl
  cases hj : Try.prog.info? 68 with
  | none => rw [hj] at h; cases h
  | some j => rw [hj] at h; exact ⟨j, rfl, by simpa using h⟩
set_option maxRecDepth 100000 in
theorem is_same (w : World) (p : Option Addr) : Calls Try.prog 28 #[.agg #[.pointer p], .agg #[.pointer p]] w fun e w' => e = .returned (.bool true) ∧ Ext w w' := by
  obtain ⟨j, hj, -⟩ := is_info
  cases p with
  | none =>
    go_enter Try.func28, Try.ntmps28
    go_wp2_with fail
    go_ret
    exact ⟨rfl, ((Ext.refl w).alloc _ _).alloc _ _⟩
  | some a =>
    have hs := fun W => run_eql_ptr_same (P := Try.prog) W a Try.underlying30 hj
    go_enter Try.func28, Try.ntmps28
    go_wp2_with fail
    go_ret
    exact ⟨rfl, ((Ext.refl w).alloc _ _).alloc _ _⟩
def Leads (w : World) (p : Option Addr) : Prop := ∀ a, p = some a → ∃ c t, w.heap[a.block]? = some (.cells c t (0, 0))
theorem Leads.agree {w w' : World} {p : Option Addr} (h : Leads w p) {F : Nat → Prop} (ha : Agree F w w') (hF : ∀ a, p = some a → F a.block) : Leads w' p := fun a e => by
  obtain ⟨c, t, hc⟩ := h a e
  exact ⟨c, t, (ha _ (hF a e)).trans hc⟩
theorem Leads.ext {w w' : World} {p : Option Addr} (h : Leads w p) (he : Ext w w') : Leads w' p := fun a e => by
  obtain ⟨c, t, hc⟩ := h a e
  have hl : a.block < w.heap.size := (Array.getElem?_eq_some_iff.1 hc).1
  exact ⟨c, t, (he.heap hl).trans hc⟩
end Go.Proofs.Ytohajcflklejjaa
namespace Go.Proofs.Ytohajcflklejjaa
open Go.RowKit
set_option linter.unusedVariables false
set_option linter.unusedSimpArgs false
theorem mod_apart {a b k : Nat} (h : a < b) (hk : b < a + k) : a % k ≠ b % k := by
  intro e
  have h1 := Nat.sub_mod_eq_zero_of_mod_eq e.symm
  rw [Nat.mod_eq_of_lt (by omega)] at h1
  omega
def Holds (keep f : Nat) (xs ring : List Value) : Prop := ∀ j, j < xs.length → xs.length ≤ j + keep → ring[(f + j) % keep]? = xs[j]?
theorem Holds.put {keep f : Nat} {xs ring : List Value} (h : Holds keep f xs ring) (hl : ring.length = keep) (hp : 1 ≤ keep) (x : Value) : Holds keep f (xs ++ [x]) (ring.set ((f + xs.length) % keep) x) := by
  intro j hj hk
  rw [List.length_append] at hj hk
  simp only [List.length_cons, List.length_nil] at hj hk
  by_cases e : j = xs.length
  · subst e
    rw [List.getElem?_set_self (by rw [hl]; exact Nat.mod_lt _ hp)]
    simp
  · rw [List.getElem?_set_ne (fun e' => mod_apart (a := f + j) (b := f + xs.length) (k := keep) (by omega) (by omega) e'.symm), h j (by omega) (by omega), List.getElem?_append_left (by omega)]
end Go.Proofs.Ytohajcflklejjaa
