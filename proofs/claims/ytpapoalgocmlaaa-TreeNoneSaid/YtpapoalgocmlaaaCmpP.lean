/- Values in order, as data: what Compare comes to; lists of entries that are the same. No program in sight. -/
import Derived.Test.YtpapoalgocmlaaaPlain
namespace Go.Proofs.Ytpapoalgocmlaaa
open Go.RowKit
set_option linter.unusedVariables false

def numI (a b : Int) : Int := if a < b then -1 else if b < a then 1 else 0
def boolI (a b : Bool) : Int := if a = b then 0 else if b then -1 else 1
def textI (a b : ByteArray) : Int := if klt a b then -1 else if klt b a then 1 else 0
mutual
def cmpV : Val → Val → Int
  | .mk k b i t l ok ov, y =>
    if k ≠ y.kind then numI k y.kind else if k = 2 then boolI b y.b else if k = 3 then numI i y.i else if k = 4 then textI t y.t else if k = 5 then cmpL l y.l else if k = 6 then cmpM ov ok y.ok y.ov else 0
def cmpL : List Val → List Val → Int
  | [], m => if m.length = 0 then 0 else -1
  | _ :: _, [] => 1
  | a :: l, b :: m => if cmpV a b ≠ 0 then cmpV a b else cmpL l m
def cmpM : List Val → List ByteArray → List ByteArray → List Val → Int
  | [], _, _, m => if m.length = 0 then 0 else -1
  | _ :: _, _, _, [] => 1
  | a :: l, ka, kb, b :: m => if textI (ka.headD ByteArray.empty) (kb.headD ByteArray.empty) ≠ 0 then textI (ka.headD ByteArray.empty) (kb.headD ByteArray.empty) else if cmpV a b ≠ 0 then cmpV a b else cmpM l ka.tail kb.tail m
end

theorem numI_self (a : Int) : numI a a = 0 := by simp [numI]
theorem numI_zero {a b : Int} : numI a b = 0 ↔ a = b := by unfold numI; split <;> (try split) <;> omega
theorem numI_swap {a b : Int} : numI a b = 0 ↔ numI b a = 0 := by rw [numI_zero, numI_zero]; exact eq_comm
theorem boolI_zero {a b : Bool} : boolI a b = 0 ↔ a = b := by cases a <;> cases b <;> simp [boolI]
theorem textI_self (a : ByteArray) : textI a a = 0 := by simp [textI, klt_irrefl]
theorem textI_zero {a b : ByteArray} : textI a b = 0 ↔ a = b := by
  constructor
  · intro h
    unfold textI at h
    split at h
    · cases h
    · split at h
      · cases h
      · rename_i h1 h2
        exact klt_total (by simpa using h1) (by simpa using h2)
  · rintro rfl; exact textI_self _
theorem cmpV_self (m : Nat) : ∀ d : Val, SizeOf.sizeOf d ≤ m → cmpV d d = 0 := by
  induction m with
  | zero => intro d hd; have := Val.sz_pos d; omega
  | succ m ih =>
    intro d hd
    obtain ⟨k, b, i, t, l, ok, ov⟩ := d
    have hl : ∀ l' : List Val, SizeOf.sizeOf l' ≤ m → cmpL l' l' = 0 := by
      intro l'
      induction l' with
      | nil => intro _; simp [cmpL]
      | cons a l' ihl =>
        intro hs
        simp only [List.cons.sizeOf_spec] at hs
        simp only [cmpL]
        rw [ih a (by omega)]
        simpa using ihl (by omega)
    have ho : ∀ (l' : List Val) (kk : List ByteArray), SizeOf.sizeOf l' ≤ m → cmpM l' kk kk l' = 0 := by
      intro l'
      induction l' with
      | nil => intro kk _; simp [cmpM]
      | cons a l' ihl =>
        intro kk hs
        simp only [List.cons.sizeOf_spec] at hs
        simp only [cmpM]
        rw [ih a (by omega), textI_self]
        simpa using ihl kk.tail (by omega)
    simp only [Val.mk.sizeOf_spec] at hd
    simp only [cmpV, Val.kind, Val.b, Val.i, Val.t, Val.l, Val.ok, Val.ov]
    simp only [ne_eq, not_true_eq_false, if_false, numI_self, textI_self, hl l (by omega), ho ov ok (by omega), boolI, if_true]
    simp
theorem cmpV_refl (d : Val) : cmpV d d = 0 := cmpV_self _ d (Nat.le_refl _)

/-- Two lists of entries that are the same. -/
def sameE : List Ent → List Ent → Bool
  | [], [] => true
  | a :: l, b :: m => decide (a.1 = b.1) && decide (cmpV a.2 b.2 = 0) && sameE l m
  | _, _ => false
theorem sameE_refl : ∀ l : List Ent, sameE l l = true
  | [] => rfl
  | a :: l => by simp [sameE, cmpV_refl, sameE_refl l]
theorem sameE_len : ∀ {l m : List Ent}, sameE l m = true → l.length = m.length
  | [], [], _ => rfl
  | a :: l, b :: m, h => by
    simp only [sameE, Bool.and_eq_true] at h
    simp [sameE_len h.2]
  | [], _ :: _, h => by cases h
  | _ :: _, [], h => by cases h
end Go.Proofs.Ytpapoalgocmlaaa
