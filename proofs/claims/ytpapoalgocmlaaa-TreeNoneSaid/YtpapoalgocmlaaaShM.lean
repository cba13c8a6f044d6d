/- Shapes in memory. -/
import Derived.Test.YtpapoalgocmlaaaShP
import Derived.Test.YtpapoalgocmlaaaSt
import Derived.Test.YtpapoalgocmlaaaNode
namespace Go.Proofs.Ytpapoalgocmlaaa
open Go.RowKit
set_option linter.unusedVariables false

/-- The two cells of a shape. -/
structure SCells (w : World) (b o : Nat) (d : Sh) (c : Sl × Sl) : Prop where
  c0 : w.cell? ⟨b, o, none⟩ = some (.slice c.1.a d.es.length c.1.c)
  c1 : w.cell? ⟨b, o + 1, none⟩ = some (.slice c.2.a d.ks.length c.2.c)
theorem SCells.agree {w w' : World} {b o : Nat} {d : Sh} {c : Sl × Sl} (h : SCells w b o d c) {F : Nat → Prop} (ha : Agree F w w') (hb : F b) : SCells w' b o d c := ⟨(ha.cell hb).trans h.c0, (ha.cell hb).trans h.c1⟩
/-- What a shape's two slices lead to in memory (all of it in blocks of F) is what the datum has. -/
inductive RS (w : World) (F : Nat → Prop) : Sh → Sl → Sl → Prop
  | mk {es : List Ent} {ks : List Sh} {se sk : Sl} (xs : List LE) (bk fk : Nat) (c : Nat → Sl × Sl) (hx : xs.map LE.ent = es) (he : ES w F se xs) (hs : SlAt F sk ks.length bk fk)
      (ce : ∀ j d, ks[j]? = some d → SCells w bk (fk + j * 2) d (c j)) (re : ∀ j d, ks[j]? = some d → RS w F d (c j).1 (c j).2)
      (few : ks.length * 48 ≤ 140737488355328) : RS w F (.mk es ks) se sk
theorem RS.agree {w w' : World} {F : Nat → Prop} {d : Sh} {se sk : Sl} (h : RS w F d se sk) (ha : Agree F w w') : RS w' F d se sk := by
  induction h with
  | mk xs bk fk c hx he hs ce re few ih =>
    exact .mk xs bk fk c hx (he.agree ha) hs (fun j d hj => (ce j d hj).agree ha (hs.fits (lt_length hj))) (fun j d hj => ih j d hj) few
theorem RS.mono {w : World} {F G : Nat → Prop} {d : Sh} {se sk : Sl} (h : RS w F d se sk) (hG : ∀ i, F i → G i) : RS w G d se sk := by
  induction h with
  | mk xs bk fk c hx he hs ce re few ih => exact .mk xs bk fk c hx (he.mono hG) (hs.mono hG) ce (fun j d hj => ih j d hj) few
theorem RS.ext {w w' : World} {d : Sh} {se sk : Sl} (h : RS w (Lt w.heap.size) d se sk) (he : Ext w w') : RS w' (Lt w'.heap.size) d se sk :=
  (h.agree (he.agree fun _ h => h)).mono fun _ hi => Nat.lt_of_lt_of_le hi he.size
/-- A shape as it stands in a slot. -/
abbrev aggS (d : Sh) (se sk : Sl) : Value := .agg #[.slice se.a d.es.length se.c, .slice sk.a d.ks.length sk.c]
theorem RS.ents {w : World} {F : Nat → Prop} {d : Sh} {se sk : Sl} (h : RS w F d se sk) : ∃ xs, xs.map LE.ent = d.es ∧ ES w F se xs := by
  cases h with
  | mk xs bk fk c hx he hs ce re few => exact ⟨xs, hx, he⟩
/-- The j-th kid of a shape. -/
theorem RS.kid {w : World} {F : Nat → Prop} {d : Sh} {se sk : Sl} (h : RS w F d se sk) {j : Nat} {k : Sh} (hk : d.ks[j]? = some k) :
    ∃ b o s1 s2, sk.a = some ⟨b, o, none⟩ ∧ F b ∧ d.ks.length ≤ sk.c ∧ sk.c ≤ maxLen ∧ SCells w b (o + j * 2) k (s1, s2) ∧ RS w F k s1 s2 := by
  cases h with
  | mk xs bk fk c hx he hs ce re few =>
    obtain ⟨e1, e2, e3⟩ := hs.eq (lt_length hk)
    exact ⟨bk, fk, (c j).1, (c j).2, e1, hs.fits (lt_length hk), e2, e3, ce j k hk, re j k hk⟩
theorem RS.few {w : World} {F : Nat → Prop} {d : Sh} {se sk : Sl} (h : RS w F d se sk) : d.ks.length * 48 ≤ 140737488355328 ∧ d.es.length * 104 ≤ 140737488355328 := by
  cases h with
  | mk xs bk fk c hx he hs ce re few => exact ⟨few, by subst hx; rw [Sh.es, List.length_map]; exact he.few⟩
theorem RS.leaf {w : World} {F : Nat → Prop} {se : Sl} {xs : List LE} (he : ES w F se xs) : RS w F (.mk (xs.map LE.ent) []) se Sl.none :=
  .mk xs 0 0 (fun _ => (Sl.none, Sl.none)) rfl he (.nil _ _) (fun j d h => by simp at h) (fun j d h => by simp at h) (by simp)
end Go.Proofs.Ytpapoalgocmlaaa
