/- The order of values is the same from both sides, where it says 'the same'. No program in sight. -/
import Derived.Test.YtpapoalgocmlaaaMc
namespace Go.Proofs.Ytpapoalgocmlaaa
open Go.RowKit
set_option linter.unusedVariables false

theorem cmpV_mk (k : Int) (b : Bool) (i : Int) (t : ByteArray) (l : List Val) (ok : List ByteArray) (ov : List Val) (k' : Int) (b' : Bool) (i' : Int) (t' : ByteArray) (l' : List Val) (ok' : List ByteArray) (ov' : List Val) :
    cmpV (.mk k b i t l ok ov) (.mk k' b' i' t' l' ok' ov') = if k ≠ k' then numI k k' else if k = 2 then boolI b b' else if k = 3 then numI i i' else if k = 4 then textI t t' else if k = 5 then cmpL l l' else if k = 6 then cmpM ov ok ok' ov' else 0 := by
  rw [cmpV]; rfl
theorem cmpV_swap0 (m : Nat) : ∀ x y : Val, SizeOf.sizeOf x ≤ m → cmpV x y = 0 → cmpV y x = 0 := by
  induction m with
  | zero => intro d _ hd; have := Val.sz_pos d; omega
  | succ m ih =>
    intro x y hd h
    obtain ⟨k, b, i, t, l, ok, ov⟩ := x
    obtain ⟨k', b', i', t', l', ok', ov'⟩ := y
    have hl : ∀ l l' : List Val, SizeOf.sizeOf l ≤ m → cmpL l l' = 0 → cmpL l' l = 0 := by
      intro l
      induction l with
      | nil =>
        intro l' _ h
        cases l' with
        | nil => simp [cmpL]
        | cons b l' => simp [cmpL] at h
      | cons a l ihl =>
        intro l' hs h
        simp only [List.cons.sizeOf_spec] at hs
        cases l' with
        | nil => simp [cmpL] at h
        | cons b l' =>
          simp only [cmpL] at h ⊢
          by_cases hc : cmpV a b = 0
          · rw [if_neg (fun hn => hn hc)] at h
            rw [if_neg (by simp [ih a b (by omega) hc])]
            exact ihl l' (by omega) h
          · rw [if_pos hc] at h; exact absurd h hc
    have ho : ∀ (l : List Val) (ka kb : List ByteArray) (l' : List Val), SizeOf.sizeOf l ≤ m → cmpM l ka kb l' = 0 → cmpM l' kb ka l = 0 := by
      intro l
      induction l with
      | nil =>
        intro ka kb l' _ h
        cases l' with
        | nil => simp [cmpM]
        | cons b l' => simp [cmpM] at h
      | cons a l ihl =>
        intro ka kb l' hs h
        simp only [List.cons.sizeOf_spec] at hs
        cases l' with
        | nil => simp [cmpM] at h
        | cons b l' =>
          simp only [cmpM] at h ⊢
          by_cases ht : textI (ka.headD ByteArray.empty) (kb.headD ByteArray.empty) = 0
          · rw [if_neg (fun hn => hn ht)] at h
            rw [if_neg (by rw [textI_zero] at ht; rw [ht, textI_self]; simp)]
            by_cases hc : cmpV a b = 0
            · rw [if_neg (fun hn => hn hc)] at h
              rw [if_neg (by simp [ih a b (by omega) hc])]
              exact ihl _ _ l' (by omega) h
            · rw [if_pos hc] at h; exact absurd h hc
          · rw [if_pos ht] at h; exact absurd h ht
    simp only [Val.mk.sizeOf_spec] at hd
    rw [cmpV_mk] at h ⊢
    by_cases hk : k = k'
    · subst hk
      rw [if_neg (by simp)] at h ⊢
      by_cases h2 : k = 2
      · rw [if_pos h2] at h ⊢
        exact boolI_zero.2 (boolI_zero.1 h).symm
      rw [if_neg h2] at h ⊢
      by_cases h3 : k = 3
      · rw [if_pos h3] at h ⊢
        exact numI_swap.1 h
      rw [if_neg h3] at h ⊢
      by_cases h4 : k = 4
      · rw [if_pos h4] at h ⊢
        exact textI_zero.2 (textI_zero.1 h).symm
      rw [if_neg h4] at h ⊢
      by_cases h5 : k = 5
      · rw [if_pos h5] at h ⊢
        exact hl l l' (by omega) h
      rw [if_neg h5] at h ⊢
      by_cases h6 : k = 6
      · rw [if_pos h6] at h ⊢
        exact ho ov ok ok' ov' (by omega) h
      rw [if_neg h6]
    · rw [if_pos hk] at h
      exact absurd (numI_zero.1 h) hk
theorem cmpV_swap (x y : Val) : cmpV x y = 0 ↔ cmpV y x = 0 := ⟨cmpV_swap0 _ x y (Nat.le_refl _), cmpV_swap0 _ y x (Nat.le_refl _)⟩
theorem sameE_swap : ∀ l m : List Ent, sameE l m = sameE m l
  | [], [] => rfl
  | [], _ :: _ => rfl
  | _ :: _, [] => rfl
  | a :: l, b :: m => by
    rw [sameE, sameE, sameE_swap l m, show decide (a.1 = b.1) = decide (b.1 = a.1) from decide_eq_decide.2 eq_comm, show decide (cmpV a.2 b.2 = 0) = decide (cmpV b.2 a.2 = 0) from decide_eq_decide.2 (cmpV_swap _ _)]
end Go.Proofs.Ytpapoalgocmlaaa
