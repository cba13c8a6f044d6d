/- A log as all that was put into it from a first version on: Put, At, pick. -/
import Derived.Test.YtpapoalgocmlaaaLogLaw
namespace Go.Proofs.Ytpapoalgocmlaaa
open Go.RowKit
set_option linter.unusedVariables false
set_option linter.unusedSimpArgs false

theorem mod_apart {a b k : Nat} (h : a < b) (hk : b < a + k) : a % k ≠ b % k := by
  intro e
  have h1 := Nat.sub_mod_eq_zero_of_mod_eq e.symm
  rw [Nat.mod_eq_of_lt (by omega)] at h1
  omega

/-- The ring has the last ones of all that were put, each at its version's place. -/
def Holds (keep f : Nat) (xs ring : List Value) : Prop := ∀ j, j < xs.length → xs.length ≤ j + keep → ring[(f + j) % keep]? = xs[j]?
theorem Holds.put {keep f : Nat} {xs ring : List Value} (h : Holds keep f xs ring) (hl : ring.length = keep) (hp : 1 ≤ keep) (x : Value) : Holds keep f (xs ++ [x]) (ring.set ((f + xs.length) % keep) x) := by
  intro j hj hk
  rw [List.length_append] at hj hk
  simp only [List.length_cons, List.length_nil] at hj hk
  by_cases e : j = xs.length
  · subst e
    rw [List.getElem?_set_self (by rw [hl]; exact Nat.mod_lt _ hp)]
    simp
  · rw [List.getElem?_set_ne (fun e' => mod_apart (a := f + j) (b := f + xs.length) (k := keep) (by omega) (by omega) e'.symm), h j (by omega) (by omega), List.getElem?_append_left (by omega)]

def lastV (f : Nat) (xs : List Value) : Nat := if xs.length = 0 then 0 else f + xs.length - 1
/-- A log that keeps so many, into which xs were put, the first one as version f. -/
def LogAt (w : World) (L R keep f : Nat) (xs : List Value) : Prop := ∃ ring, IsL w L R keep (lastV f xs) (min xs.length keep) ring ∧ Holds keep f xs ring
theorem LogAt.ext {w w' : World} {L R keep f : Nat} {xs : List Value} (h : LogAt w L R keep f xs) (he : Ext w w') : LogAt w' L R keep f xs := h.elim fun r h => ⟨r, h.1.ext he, h.2⟩
theorem LogAt.lt {w : World} {L R keep f : Nat} {xs : List Value} (h : LogAt w L R keep f xs) : L < w.heap.size ∧ R < w.heap.size := h.elim fun r h => ⟨h.1.blk.lt, h.1.row.lt⟩
theorem LogAt.nil {w : World} {L R keep f : Nat} {ring : List Value} (h : IsL w L R keep 0 0 ring) : LogAt w L R keep f [] := ⟨ring, by simpa [lastV] using h, fun j hj => by simp at hj⟩
theorem LogAt.agree {w w' : World} {L R keep f : Nat} {xs : List Value} (h : LogAt w L R keep f xs) {F : Nat → Prop} (ha : Agree F w w') (h1 : F L) (h2 : F R) : LogAt w' L R keep f xs := h.elim fun r h => ⟨r, h.1.agree ha h1 h2, h.2⟩

/-- What a Put of the next version leaves. -/
def PutN (L R keep f : Nat) (xs : List Value) (x : Value) (w : World) (e : Ending) (w' : World) : Prop :=
  e = .returned (.int .i64 0) ∧ LogAt w' L R keep f (xs ++ [x]) ∧ Agree (fun b => b < w.heap.size ∧ b ≠ L ∧ b ≠ R) w w' ∧ w.heap.size ≤ w'.heap.size ∧ ∀ a : World, Ext a w → a.heap.size ≤ L → a.heap.size ≤ R → Ext a w'

theorem put_log {w : World} {L R keep f : Nat} {xs : List Value} (h : LogAt w L R keep f xs) (v : Nat) (hv : v = f + xs.length) (hm : v ≤ 4611686018427387903) (q : Option Addr) :
    Calls Try.prog 29 #[logV L, .int .u64 v, .agg #[.pointer q]] w (PutN L R keep f xs (.pointer q) w) := by
  obtain ⟨ring, hl, hh⟩ := h
  have hp := hl.pos
  refine (put_ok hl v (by omega) q ?_).mono ?_
  · unfold putCode lastV
    rw [if_neg (by omega)]
    by_cases h0 : xs.length = 0
    · rw [h0]; simp
    · rw [if_neg h0, if_neg (by omega), if_neg (by omega)]
  · rintro e w' ⟨rfl, h2, h3, h4, h5⟩
    refine ⟨rfl, ⟨ring.set (v % keep) (.pointer q), ?_, ?_⟩, h3, h4, h5⟩
    · have e1 : lastV f (xs ++ [Value.pointer q]) = v := by unfold lastV; rw [if_neg (by simp), List.length_append]; simp only [List.length_cons, List.length_nil]; omega
      have e2 : min (xs ++ [Value.pointer q]).length keep = min (min xs.length keep + 1) keep := by rw [List.length_append]; simp only [List.length_cons, List.length_nil]; omega
      rw [e1, e2]
      exact h2
    · subst hv
      exact hh.put hl.len hp _

/-- What is kept under a version. -/
def Has (keep f : Nat) (xs : List Value) (v : Nat) (x : Value) : Prop := f ≤ v ∧ v - f < xs.length ∧ xs.length ≤ v - f + keep ∧ xs[v - f]? = some x
def AtN (keep f : Nat) (xs : List Value) (v : Nat) (w : World) (e : Ending) (w' : World) : Prop :=
  ((¬ (f ≤ v ∧ v - f < xs.length ∧ xs.length ≤ v - f + keep) ∧ e = .returned (.tuple #[.agg #[.pointer none], .bool false])) ∨ (∃ q, Has keep f xs v (.pointer q) ∧ e = .returned (.tuple #[.agg #[.pointer q], .bool true]))) ∧ Ext w w'
theorem at_log {w : World} {L R keep f : Nat} {xs : List Value} (h : LogAt w L R keep f xs) (v : Nat) (hv : v < 18446744073709551616) : Calls Try.prog 34 #[logV L, .int .u64 v] w (AtN keep f xs v w) := by
  obtain ⟨ring, hl, hh⟩ := h
  have hp := hl.pos
  have hc := hl.cnt
  have key : keptV (lastV f xs) (min xs.length keep) v ↔ (f ≤ v ∧ v - f < xs.length ∧ xs.length ≤ v - f + keep) := by
    unfold keptV oldV lastV
    by_cases h0 : xs.length = 0
    · rw [h0]; simp
    · rw [if_neg h0, if_neg (by omega)]; omega
  refine (at_any hl v hv).mono ?_
  rintro e w' ⟨⟨hk, rfl⟩ | ⟨hk, x, hx, rfl⟩, he⟩
  · exact ⟨.inl ⟨fun h => hk (key.2 h), rfl⟩, he⟩
  · obtain ⟨k1, k2, k3⟩ := key.1 hk
    obtain ⟨q, rfl⟩ := hl.ptr x (List.mem_of_getElem? hx)
    refine ⟨.inr ⟨q, ⟨k1, k2, k3, ?_⟩, rfl⟩, he⟩
    rw [← hh _ k2 k3, show f + (v - f) = v from by omega]
    exact hx

/-- Which one pick picks. -/
def pk (i : Int) : Nat := (IntKind.u64.wrap i % 5).toNat
theorem pk_lt (i : Int) : pk i < 5 := by unfold pk; omega
theorem pk_nat (i : Nat) (h : i < 18446744073709551616) : pk i = i % 5 := by
  have e : (i : Int) % 18446744073709551616 = i := Int.emod_eq_of_lt (by omega) (by omega)
  unfold pk; rw [IntKind.wrap_u64, e]; omega
abbrev rowT (a b c d : Nat) : List Value := [.pointer none, .pointer (some ⟨a, 0, none⟩), .pointer (some ⟨b, 0, none⟩), .pointer (some ⟨c, 0, none⟩), .pointer (some ⟨d, 0, none⟩)]
theorem rowT_ptr (a b c d : Nat) (k : Nat) (hk : k < 5) : ∃ q, (rowT a b c d)[k]? = some (.pointer q) := by
  match k, hk with
  | 0, _ => exact ⟨_, rfl⟩
  | 1, _ => exact ⟨_, rfl⟩
  | 2, _ => exact ⟨_, rfl⟩
  | 3, _ => exact ⟨_, rfl⟩
  | 4, _ => exact ⟨_, rfl⟩
def PickPost (row : List Value) (i : Int) (w : World) (e : Ending) (w' : World) : Prop :=
  ∃ q, row[pk i]? = some (.pointer q) ∧ e = .returned (.tuple #[.agg #[.pointer q], .int .i64 (pk i : Nat)]) ∧ Ext w w'

set_option maxRecDepth 100000 in
set_option maxHeartbeats 400000 in
theorem pick_any {w : World} {T a b c d : Nat} (hT : Blk w T 30 (rowT a b c d).toArray) (i : Int) : Calls Try.prog 33 #[.slice (some ⟨T, 0, none⟩) 5 5, .int .i64 i] w (PickPost (rowT a b c d) i w) := by
  obtain ⟨q, hq⟩ := rowT_ptr a b c d (pk i) (pk_lt i)
  obtain ⟨k, hk⟩ : ∃ k, pk i = k := ⟨_, rfl⟩
  have hk5 : k < 5 := hk ▸ pk_lt i
  have hk5' : (k : Int) < 5 := by omega
  have hw0 : 0 ≤ IntKind.u64.wrap i := by rw [IntKind.wrap_u64]; omega
  have hk0 : (IntKind.u64.wrap i).tmod 5 = (k : Int) := by
    rw [Int.tmod_eq_emod_of_nonneg hw0, ← hk]; exact (Int.toNat_of_nonneg (Int.emod_nonneg _ (by decide))).symm
  have hk1 : wrap64 (k : Int) = (k : Int) := IntWalk.wrap64_in _ (by omega)
  have hc : w.cell? ⟨T, k, none⟩ = some (.pointer q) := by rw [hT.cell]; simpa [hk] using hq
  have hTl := hT.lt
  have HQ := Lib.hid hq
  have HK := Lib.hid hk
  have f0 := fun o => hT.frozen o
  clear hq hk hT hw0
  go_enter Try.func33, Try.ntmps33
  go_wp2_with fail
  refine bodyPost_ret (v := .tuple #[.agg #[.pointer q], .int .i64 k]) (by simp [results, Try.results33, go_sem]) rfl ?_
  exact ⟨q, HQ.out, by rw [HK.out], (Ext.refl w).alloc _ _⟩
theorem u64_nonneg {q : Int} (h : (Lit.int .u64 q).wf = true) : 0 ≤ q ∧ q < 18446744073709551616 := by
  have h1 : IntKind.u64.min = 0 := by decide
  have h2 : IntKind.u64.max = 18446744073709551615 := by decide
  simp [Lit.wf, h1, h2] at h; omega
end Go.Proofs.Ytpapoalgocmlaaa
