/- tree.place: where a key is among a leaf's entries. -/
import Derived.Test.YtpapoalgocmlaaaEntry
import Derived.Shelf.Abstract
namespace Go.Proofs.Ytpapoalgocmlaaa
open Go.RowKit
set_option linter.unusedVariables false

/-- How many keys are below k, of a sorted list: where k is, or belongs. -/
def posE (es : List Ent) (k : ByteArray) : Nat := (es.takeWhile fun e => klt e.1 k).length
theorem posE_le (es : List Ent) (k : ByteArray) : posE es k ≤ es.length := (List.takeWhile_sublist _).length_le
theorem posE_of {es : List Ent} {k : ByteArray} {p : Nat} (hp : p ≤ es.length) (hlo : ∀ i e, i < p → es[i]? = some e → klt e.1 k = true) (hhi : ∀ e, es[p]? = some e → klt e.1 k = false) : posE es k = p := by
  induction es generalizing p with
  | nil => simp at hp; subst hp; rfl
  | cons a es ih =>
    cases p with
    | zero => simp [posE, hhi a rfl]
    | succ p =>
      have h0 := hlo 0 a (by omega) rfl
      have := ih (p := p) (by simpa using hp) (fun i e hi he => hlo (i + 1) e (by omega) (by simpa using he)) (fun e he => hhi e (by simpa using he))
      simp only [posE, List.takeWhile_cons, h0, if_true, List.length_cons]
      rw [← this]; rfl

theorem sorted_lt {es : List Ent} (h : Sorted es) {i j : Nat} (hij : i < j) {a b : Ent} (ha : es[i]? = some a) (hb : es[j]? = some b) : klt a.1 b.1 = true := by
  obtain ⟨hi, rfl⟩ := List.getElem?_eq_some_iff.1 ha
  obtain ⟨hj, rfl⟩ := List.getElem?_eq_some_iff.1 hb
  exact List.pairwise_iff_getElem.1 h i j hi hj hij
/-- The closure of place. -/
theorem place1_any {w W : World} {s : Sl} {xs : List LE} (hs : ES w (Lt w.heap.size) s xs) {k : ByteArray} {b1 b2 : Nat} (h1 : W.cell? ⟨b1, 0, none⟩ = some (.slice s.a xs.length s.c)) (h2 : W.cell? ⟨b2, 0, none⟩ = some (.string k)) (hx : Ext w W)
    {i : Nat} {x : LE} (hi : xs[i]? = some x) : Calls Try.prog 167 #[.int .i64 i, .pointer (some ⟨b1, 0, none⟩), .pointer (some ⟨b2, 0, none⟩)] W fun e w' => e = .returned (.bool !(klt x.k k)) ∧ Ext W w' := by
  obtain ⟨b, o, ha, hbo, hlc, hcm, hk0, -⟩ := hs.at hi
  have hk : W.cell? ⟨b, o + i * 7, none⟩ = some (.string x.k) := (hx.cell hbo).trans hk0
  have hil : i < xs.length := (List.getElem?_eq_some_iff.1 hi).1
  have hil' : (i : Int) < (xs.length : Int) := by omega
  have hfew := hs.few
  rw [ha] at h1
  clear hs hi hx ha hk0
  go_enter Try.func167, Try.ntmps167
  go_wp2_with fail
  go_quiet (fail)
  go_wp2
  go_ret
  exact ⟨rfl, (Ext.refl W).drewN _⟩

/-- What place hands back. -/
def PlacePost (es : List Ent) (k : ByteArray) (w : World) (e : Ending) (w' : World) : Prop :=
  e = .returned (.tuple #[.int .i64 (posE es k), .bool (decide ((es[posE es k]?).map Prod.fst = some k))]) ∧ Ext w w'

set_option maxRecDepth 100000 in
set_option maxHeartbeats 800000 in
theorem place_any {w : World} {s : Sl} {xs : List LE} (hs : ES w (Lt w.heap.size) s xs) (k : ByteArray) (hsort : Sorted (xs.map LE.ent)) :
    Calls Try.prog 133 #[.slice s.a xs.length s.c, .string k] w (PlacePost (xs.map LE.ent) k w) := by
  have hfew := hs.few
  have HS := Lib.hid hs
  have HO := Lib.hid hsort
  have hsr : ∀ W, Ext w W → W.cell? ⟨w.heap.size, 0, none⟩ = some (.slice s.a xs.length s.c) → W.cell? ⟨w.heap.size + 1, 0, none⟩ = some (.string k) → 
      Calls Try.prog 142 #[.int .i64 xs.length, .func (.func 167) #[] #[.pointer (some ⟨w.heap.size, 0, none⟩), .pointer (some ⟨w.heap.size + 1, 0, none⟩)]] W (SearchPost xs.length (fun i => !(klt ((xs[i]?.map LE.k).getD ByteArray.empty) k)) W) := by
    intro W hW h1 h2
    refine search_any 167 _ _ xs.length _ W (enters_of Try.func167 (by kernel_rfl) rfl) (by omega) ?_ ?_
    · intro i W' hi hW'
      obtain ⟨x, hx⟩ : ∃ x, xs[i]? = some x := ⟨_, List.getElem?_eq_getElem hi⟩
      rw [hx]
      have hb1 := World.block_lt_of_cell? W _ h1
      have hb2 := World.block_lt_of_cell? W _ h2
      exact place1_any HS.out ((hW'.cell hb1).trans h1) ((hW'.cell hb2).trans h2) (hW.trans hW') hx
    · intro i j hij hj hpi
      by_cases hij' : i = j
      · subst hij'; exact hpi
      · have hlt := HO.out
        obtain ⟨x, hx⟩ : ∃ x, xs[i]? = some x := ⟨_, List.getElem?_eq_getElem (by omega)⟩
        obtain ⟨y, hy⟩ : ∃ y, xs[j]? = some y := ⟨_, List.getElem?_eq_getElem hj⟩
        have hxy := sorted_lt hlt (i := i) (j := j) (by omega) (by rw [List.getElem?_map, hx]; rfl) (by rw [List.getElem?_map, hy]; rfl)
        rw [hx] at hpi; rw [hy]
        simp only [Option.map_some, Option.getD_some, Bool.not_eq_true'] at hpi ⊢
        cases hyk : klt y.k k
        · rfl
        · have := klt_trans hxy hyk
          rw [show klt x.ent.1 k = klt x.k k from rfl, hpi] at this; cases this
  clear hs hsort
  go_enter Try.func133, Try.ntmps133
  go_wp2_with fail
  refine (hsr _ (((Ext.refl w).alloc _ _).alloc _ _) (by simp) (by simp)).mono ?_
  rintro e w1 ⟨p, rfl, hp, hlo, hhi, he1⟩
  have hb1 : Blk w1 w.heap.size 53 #[.slice s.a xs.length s.c] := (he1.heap (by rw [World.size_alloc, World.size_alloc]; omega)).trans (heap_alloc2_old w _ _)
  have hb2 : Blk w1 (w.heap.size + 1) 9 #[.string k] := (he1.heap (by rw [World.size_alloc, World.size_alloc]; omega)).trans (heap_alloc2_new w _ _)
  have q1 := hb1.cell 0
  have q2 := hb2.cell 0
  have hX : Ext w w1 := (((Ext.refl w).alloc _ _).alloc _ _).trans he1
  have hpos : posE (xs.map LE.ent) k = p := posE_of (by simpa using hp) (fun i e hi he => by
      rw [List.getElem?_map] at he
      obtain ⟨x, hx, rfl⟩ := Option.map_eq_some_iff.1 he
      have : (!(klt ((xs[i]?.map LE.k).getD ByteArray.empty) k)) = false := hlo i hi
      rw [hx] at this
      show klt x.k k = true
      simpa using this) (fun e he => by
      rw [List.getElem?_map] at he
      obtain ⟨x, hx, rfl⟩ := Option.map_eq_some_iff.1 he
      have : (!(klt ((xs[p]?.map LE.k).getD ByteArray.empty) k)) = true := hhi p (Nat.le_refl _) (List.getElem?_eq_some_iff.1 hx).1
      rw [hx] at this
      show klt x.k k = false
      simpa using this)
  have HP := Lib.hid hpos
  clear hlo hhi hpos hsr he1 hb1 hb2
  simp only [List.getElem?_toArray, List.getElem?_cons_zero] at q1 q2
  by_cases hlt : p < xs.length
  · obtain ⟨x, hx⟩ : ∃ x, xs[p]? = some x := ⟨_, List.getElem?_eq_getElem hlt⟩
    obtain ⟨b, o, ha, hbo, hlc, hcm, hk0, -⟩ := HS.out.at hx
    have hk : w1.cell? ⟨b, o + p * 7, none⟩ = some (.string x.k) := (hX.cell hbo).trans hk0
    have hd : decide ((p : Int) < (xs.length : Int)) = true := by simp; omega
    have hlt' : (p : Int) < (xs.length : Int) := by omega
    have HX := Lib.hid hx
    have HE := Lib.hid hX
    rw [ha] at q1
    clear hk0 hx hX ha
    go_wp2_with fail
    go_quiet (fail)
    go_wp2
    go_ret2
    refine ⟨?_, HE.out.drewN _⟩
    rw [HP.out, List.getElem?_map, HX.out]
    show Ending.returned (.tuple #[.int .i64 p, .bool (x.k.toList == k.toList)]) = _
    rw [beq_toList]
    simp [LE.ent]
  · have hd : decide ((p : Int) < (xs.length : Int)) = false := by simp; omega
    have HE := Lib.hid hX
    clear hX
    go_wp2_with fail
    go_quiet (fail)
    go_wp2
    go_ret2
    refine ⟨?_, HE.out.drewN _⟩
    rw [HP.out, List.getElem?_map, List.getElem?_eq_none (by omega)]
    rfl
end Go.Proofs.Ytpapoalgocmlaaa
