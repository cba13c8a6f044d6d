/- tree.whichKid: the kid in which a key is, or belongs. -/
import Derived.Test.YtpapoalgocmlaaaInner
namespace Go.Proofs.Ytpapoalgocmlaaa
open Go.RowKit
set_option linter.unusedVariables false

/-- How many kids have a first key that is at most k. -/
def posK (h : Nat) (ks : List (PT h)) (k : ByteArray) : Nat := (ks.takeWhile fun t => !(klt k (firstK (ents h t)))).length
def whichK (h : Nat) (ks : List (PT h)) (k : ByteArray) : Nat := posK h ks k - 1
theorem posK_of {h : Nat} {ks : List (PT h)} {k : ByteArray} {p : Nat} (hp : p ≤ ks.length) (hlo : ∀ i t, i < p → ks[i]? = some t → klt k (firstK (ents h t)) = false) (hhi : ∀ t, ks[p]? = some t → klt k (firstK (ents h t)) = true) : posK h ks k = p := by
  induction ks generalizing p with
  | nil => simp at hp; subst hp; rfl
  | cons a ks ih =>
    cases p with
    | zero => simp [posK, hhi a rfl]
    | succ p =>
      have h0 := hlo 0 a (by omega) rfl
      have := ih (p := p) (by simpa using hp) (fun i e hi he => hlo (i + 1) e (by omega) (by simpa using he)) (fun e he => hhi e (by simpa using he))
      simp only [posK, List.takeWhile_cons, h0, Bool.not_false, if_true, List.length_cons]
      rw [← this]; rfl
theorem posK_le (h : Nat) (ks : List (PT h)) (k : ByteArray) : posK h ks k ≤ ks.length := (List.takeWhile_sublist _).length_le
theorem firstK_mem {es : List Ent} (h : 0 < es.length) : ∃ e ∈ es, firstK es = e.1 := by
  cases es with
  | nil => simp at h
  | cons x xs => exact ⟨x, List.mem_cons_self .., rfl⟩
theorem lastK_mem {es : List Ent} (h : 0 < es.length) : ∃ e ∈ es, lastK es = e.1 := by
  cases hl : es.getLast? with
  | none => rw [List.getLast?_eq_none_iff.1 hl] at h; simp at h
  | some x => exact ⟨x, List.mem_of_getLast? hl, by simp [lastK, hl]⟩
/-- Of kids that stand apart, all of an earlier one's keys go ahead. -/
theorem kids_lt {h : Nat} : ∀ {ks : List (PT h)}, Sorted (ks.flatMap (ents h)) → ∀ {i j : Nat} {x y : PT h}, i < j → ks[i]? = some x → ks[j]? = some y → ∀ a ∈ ents h x, ∀ b ∈ ents h y, klt a.1 b.1 = true
  | [], _, i, j, x, y, _, hx, _ => by simp at hx
  | t :: ts, hs, 0, 0, x, y, hij, hx, hy => by omega
  | t :: ts, hs, 0, j + 1, x, y, hij, hx, hy => by
    simp at hx hy; subst hx
    intro a ha b hb
    have hs : (ents h t ++ ts.flatMap (ents h)).Pairwise fun a b => klt a.1 b.1 = true := hs
    exact (List.pairwise_append.1 hs).2.2 a ha b (List.mem_flatMap.2 ⟨y, List.mem_of_getElem? hy, hb⟩)
  | t :: ts, hs, i + 1, 0, x, y, hij, hx, hy => by omega
  | t :: ts, hs, i + 1, j + 1, x, y, hij, hx, hy => by
    simp at hx hy
    have hs : (ents h t ++ ts.flatMap (ents h)).Pairwise fun a b => klt a.1 b.1 = true := hs
    exact kids_lt (List.pairwise_append.1 hs).2.1 (Nat.lt_of_succ_lt_succ hij) hx hy
theorem kid_sorted {h : Nat} : ∀ {ks : List (PT h)}, Sorted (ks.flatMap (ents h)) → ∀ x ∈ ks, Sorted (ents h x)
  | t :: ts, hs, x, hx => by
    have hs : (ents h t ++ ts.flatMap (ents h)).Pairwise fun a b => klt a.1 b.1 = true := hs
    rcases List.mem_cons.1 hx with rfl | hx
    · exact (List.pairwise_append.1 hs).1
    · exact kid_sorted (List.pairwise_append.1 hs).2.1 x hx
theorem firsts_rise {h : Nat} {ks : List (PT h)} (hs : Sorted (ks.flatMap (ents h))) (hp : ∀ k ∈ ks, 0 < (ents h k).length) {i j : Nat} {x y : PT h} (hij : i < j) (hx : ks[i]? = some x) (hy : ks[j]? = some y) : klt (firstK (ents h x)) (firstK (ents h y)) = true := by
  obtain ⟨a, ha, ea⟩ := firstK_mem (hp x (List.mem_of_getElem? hx))
  obtain ⟨b, hb, eb⟩ := firstK_mem (hp y (List.mem_of_getElem? hy))
  rw [ea, eb]
  exact kids_lt hs hij hx hy a ha b hb
theorem rising_of {h : Nat} {ks : List (PT h)} (hs : Sorted (ks.flatMap (ents h))) (hp : ∀ k ∈ ks, 0 < (ents h k).length) : risingK h ks := fun i x y hx hy => by
  obtain ⟨a, ha, ea⟩ := lastK_mem (hp x (List.mem_of_getElem? hx))
  obtain ⟨b, hb, eb⟩ := firstK_mem (hp y (List.mem_of_getElem? hy))
  rw [ea, eb]
  exact kids_lt hs (Nat.lt_succ_self i) hx hy a ha b hb

/-- The closure of whichKid. -/
theorem which1_any {w W : World} {F : Nat → Prop} {h : Nat} {s : Sl} {ks : List (PT h)} (hs : Rd w (Lt w.heap.size) 1 s ks.length (ptrs h ks)) (hk : ∀ k ∈ ks, IsN w F h k) (hF : ∀ b, F b → b < w.heap.size) {k : ByteArray} {b1 b2 : Nat} (h1 : W.cell? ⟨b1, 0, none⟩ = some (.slice s.a ks.length s.c)) (h2 : W.cell? ⟨b2, 0, none⟩ = some (.string k)) (hx : Ext w W) (hn : ks.length ≤ 1000)
    {i : Nat} {x : PT h} (hi : ks[i]? = some x) : Calls Try.prog 171 #[.int .i64 i, .pointer (some ⟨b1, 0, none⟩), .pointer (some ⟨b2, 0, none⟩)] W fun e w' => e = .returned (.bool (klt k (firstK (ents h x)))) ∧ Ext W w' := by
  obtain ⟨b, o, ha, hbo, hlc, hcm, hk0⟩ := hs.ptr_at hi
  have hk := (hk x (List.mem_of_getElem? hi)).agree (hx.agree hF)
  have hc : W.cell? ⟨b, o + i, none⟩ = some (ptr h x) := (hx.cell hbo).trans hk0
  have hil : i < ks.length := (List.getElem?_eq_some_iff.1 hi).1
  have hil' : (i : Int) < (ks.length : Int) := by omega
  have hcf := fun q => first_any (w := W.drewN q) (hk.agree (Agree.drewN W q))
  have HC := Lib.hid hcf
  rw [ha] at h1
  clear hs hi hx ha hk0 hcf hk
  go_enter Try.func171, Try.ntmps171
  go_wp2_with fail
  go_quiet ((go_at_call 149; refine (HC.out _).mono ?_; rintro e w2 ⟨rfl, rfl⟩; exact ⟨rfl, _, rfl⟩))
  go_wp2
  go_ret
  exact ⟨by rw [← kgt_eq, Bool.not_or]; rfl, (Ext.refl W).drewN _⟩

set_option maxRecDepth 100000 in
set_option maxHeartbeats 800000 in
theorem which_any {w : World} {F : Nat → Prop} {h : Nat} {s : Sl} {ks : List (PT h)} (hs : Rd w (Lt w.heap.size) 1 s ks.length (ptrs h ks)) (hk : ∀ k ∈ ks, IsN w F h k) (hF : ∀ b, F b → b < w.heap.size) (hp : ∀ k ∈ ks, 0 < (ents h k).length) (k : ByteArray) (hsort : Sorted (ks.flatMap (ents h))) (hn : ks.length ≤ 1000) :
    Calls Try.prog 138 #[.slice s.a ks.length s.c, .string k] w fun e w' => e = .returned (.int .i64 (whichK h ks k)) ∧ Ext w w' := by
  have HS := Lib.hid hs
  have HO := Lib.hid hsort
  have HK := Lib.hid hk
  have HF := Lib.hid hF
  have HP := Lib.hid hp
  have hsr : ∀ W, Ext w W → W.cell? ⟨w.heap.size, 0, none⟩ = some (.slice s.a ks.length s.c) → W.cell? ⟨w.heap.size + 1, 0, none⟩ = some (.string k) → 
      Calls Try.prog 142 #[.int .i64 ks.length, .func (.func 171) #[] #[.pointer (some ⟨w.heap.size, 0, none⟩), .pointer (some ⟨w.heap.size + 1, 0, none⟩)]] W (SearchPost ks.length (fun i => klt k ((ks[i]?.map fun t => firstK (ents h t)).getD ByteArray.empty)) W) := by
    intro W hW h1 h2
    refine search_any 171 _ _ ks.length _ W (enters_of Try.func171 (by kernel_rfl) rfl) (by omega) ?_ ?_
    · intro i W' hi hW'
      obtain ⟨x, hx⟩ : ∃ x, ks[i]? = some x := ⟨_, List.getElem?_eq_getElem hi⟩
      rw [hx]
      have hb1 := World.block_lt_of_cell? W _ h1
      have hb2 := World.block_lt_of_cell? W _ h2
      exact which1_any HS.out HK.out HF.out ((hW'.cell hb1).trans h1) ((hW'.cell hb2).trans h2) (hW.trans hW') hn hx
    · intro i j hij hj hpi
      by_cases hij' : i = j
      · subst hij'; exact hpi
      · obtain ⟨x, hx⟩ : ∃ x, ks[i]? = some x := ⟨_, List.getElem?_eq_getElem (by omega)⟩
        obtain ⟨y, hy⟩ : ∃ y, ks[j]? = some y := ⟨_, List.getElem?_eq_getElem hj⟩
        have hxy := firsts_rise HO.out HP.out (i := i) (j := j) (by omega) hx hy
        rw [hx] at hpi; rw [hy]
        exact klt_trans hpi hxy
  clear hs hsort hk hF hp
  go_enter Try.func138, Try.ntmps138
  go_wp2_with fail
  refine (hsr _ (((Ext.refl w).alloc _ _).alloc _ _) (by simp) (by simp)).mono ?_
  rintro e w1 ⟨p, rfl, hp, hlo, hhi, he1⟩
  have hpos : posK h ks k = p := posK_of hp (fun i t hi ht => by
      have : klt k ((ks[i]?.map fun t => firstK (ents h t)).getD ByteArray.empty) = false := hlo i hi
      rwa [ht] at this) (fun t ht => by
      have : klt k ((ks[p]?.map fun t => firstK (ents h t)).getD ByteArray.empty) = true := hhi p (Nat.le_refl _) (List.getElem?_eq_some_iff.1 ht).1
      rwa [ht] at this)
  have hX : Ext w w1 := (((Ext.refl w).alloc _ _).alloc _ _).trans he1
  have HX := Lib.hid hX
  have HPS := Lib.hid hpos
  have hw1 : IntKind.i64.wrap ((p : Int) - 1) = (p : Int) - 1 := by rw [IntKind.wrap_i64]; omega
  clear hlo hhi hsr hX hpos he1
  go_wp2_with fail
  · go_ret
    refine ⟨?_, HX.out⟩
    rw [whichK, HPS.out, show p - 1 = 0 from by omega]
    rfl
  · go_ret
    refine ⟨?_, HX.out⟩
    rw [whichK, HPS.out, show ((p - 1 : Nat) : Int) = (p : Int) - 1 from by omega]
    rfl
end Go.Proofs.Ytpapoalgocmlaaa
