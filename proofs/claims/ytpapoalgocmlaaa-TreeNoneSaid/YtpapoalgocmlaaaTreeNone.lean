/- TreeNone: a tree without keys, and one whose last key goes. -/
import Derived.Test.YtpapoalgocmlaaaDel
import Derived.Test.YtpapoalgocmlaaaLetters
import Derived.Test.YtpapoalgocmlaaaIs
import Derived.Test.YtpapoalgocmlaaaTreeOwn
import Derived.Test.YtpapoalgocmlaaaHeld
namespace Go.Proofs.Ytpapoalgocmlaaa
open Go.RowKit
set_option linter.unusedVariables false
set_option linter.unusedSimpArgs false

theorem has_nil {w : World} {F : Nat → Prop} {t : PT 0} (hn : IsN w F 0 t) : Calls Try.prog 153 #[.pointer none, ptr 0 t] w fun e w' => e = .returned (.bool false) ∧ w = w' := by
  have h1 := height_nil w
  have h2 := height_any hn
  have h3 := fun W => eql_nil_some (P := Try.prog) W ⟨addr 0 t, 0, none⟩ Try.underlying28
  clear hn
  go_enter Try.func153, Try.ntmps153
  go_wp2_with fail
  go_loopw [0] (fun v wr => v = .pointer none ∧ wr = w) (fun _ _ => 0)
  case atStart => exact ⟨rfl, rfl⟩
  case round =>
    obtain ⟨rfl, rfl⟩ := hrel
    go_wp2_with fail
    refine h1.mono ?_
    rintro e w1 ⟨rfl, rfl⟩
    go_wp2_with fail
    refine h2.mono ?_
    rintro e w1 ⟨rfl, rfl⟩
    go_wp2_with fail
    go_ret
    exact ⟨rfl, rfl⟩
theorem fresh_new {w : World} {F : Nat → Prop} {t : PT 0} (hn : IsN w F 0 t) : Calls Try.prog 112 #[.pointer none, ptr 0 t] w fun e w' => e = .returned (.int .i64 1) ∧ w = w' := by
  have h1 := has_nil hn
  have h2 := kids_leaf hn
  clear hn
  go_enter Try.func112, Try.ntmps112
  go_wp2_with fail
  refine h1.mono ?_
  rintro e w1 ⟨rfl, rfl⟩
  go_wp2_with fail
  refine h2.mono ?_
  rintro e w1 ⟨rfl, rfl⟩
  go_wp2_with fail
  go_loopw [5, 18] (fun v i wr => v = .int .i64 1 ∧ i = .int .i64 0 ∧ wr = w) (fun _ _ _ => 0)
  case atStart => exact ⟨rfl, rfl, rfl⟩
  case round =>
    obtain ⟨rfl, rfl, rfl⟩ := hrel
    go_wp2_with fail
    go_ret
    exact ⟨rfl, rfl⟩
theorem fresh_nil (w : World) (v : Value) : Calls Try.prog 112 #[v, .pointer none] w fun e w' => e = .returned (.int .i64 0) ∧ w = w' := by
  go_enter Try.func112, Try.ntmps112
  go_wp2_with fail
  go_ret
  exact ⟨rfl, rfl⟩
/-- Fresh, where fresh tells. -/
theorem freshT (w : World) (p q : Option Addr) (n : Int) (hc : ∀ W, Ext w W → Calls Try.prog 112 #[.pointer p, .pointer q] W fun e w' => e = .returned (.int .i64 n) ∧ W = w') :
    Calls Try.prog 65 #[.agg #[.pointer p], .agg #[.pointer q]] w fun e w' => e = .returned (.int .i64 n) ∧ Ext w w' := by
  have hx := ((Ext.refl w).alloc #[.pointer p] 30).alloc #[.pointer q] 30
  have HC := Lib.hid hc
  have HX := Lib.hid hx
  clear hc hx
  go_enter Try.func65, Try.ntmps65
  go_wp2_with fail
  refine (HC.out _ HX.out).mono ?_
  rintro e w1 ⟨rfl, rfl⟩
  go_wp2_with fail
  go_ret
  exact ⟨rfl, HX.out⟩
theorem same_is (w : World) (p : Option Addr) : Calls Try.prog 76 #[.agg #[.pointer p], .agg #[.pointer p]] w fun e w' => e = .returned (.bool true) ∧ Ext w w' := by
  have hx := ((Ext.refl w).alloc #[.pointer p] 30).alloc #[.pointer p] 30
  have hc := is_same ((w.alloc (.cells #[.pointer p] 30)).alloc (.cells #[.pointer p] 30)) p
  have HX := Lib.hid hx
  clear hx
  go_enter Try.func76, Try.ntmps76
  go_wp2_with fail
  refine hc.mono ?_
  rintro e w1 ⟨rfl, hx⟩
  go_wp2_with fail
  go_ret
  exact ⟨rfl, HX.out.trans hx⟩
theorem leadsT {w : World} {F : Nat → Prop} {T : RT} (hT : IsT w F T) {p : Option Addr} (hp : rootV T = .pointer p) : Leads w p := by
  intro a ha
  subst ha
  match T, hT, hp with
  | some ⟨h, t⟩, hT, hp =>
    obtain ⟨_, _, _, _, _, _, hb⟩ := IsN.cells hT
    have hp : Value.pointer (some ⟨addr h t, 0, none⟩) = .pointer (some a) := hp
    simp only [Value.pointer.injEq, Option.some.injEq] at hp
    subst hp
    exact ⟨_, _, hb⟩
set_option maxRecDepth 100000 in
theorem same_len {w : World} {F G : Nat → Prop} {S T : RT} (hF : ∀ b, F b → b < w.heap.size) (hG : ∀ b, G b → b < w.heap.size) (hS : IsT w F S) (hT : IsT w G T) (hd : rootV S ≠ rootV T) (hn : (entsT S).length ≠ (entsT T).length) :
    Calls Try.prog 76 #[treeV S, treeV T] w fun e w' => e = .returned (.bool false) ∧ Ext w w' := by
  obtain ⟨p, hp⟩ := rootV_ptr S
  obtain ⟨q, hq⟩ := rootV_ptr T
  have hlS : ∀ W, Ext w W → Calls Try.prog 78 #[.agg #[.pointer p]] W fun e w' => e = .returned (.int .i64 (entsT S).length) ∧ Ext W w' := fun W hW => by
    have := treeLen_any (fun b hb => Nat.lt_of_lt_of_le (hF b hb) hW.size) (hS.agree (hW.agree hF))
    rwa [treeV, hp] at this
  have hlT : ∀ W, Ext w W → Calls Try.prog 78 #[.agg #[.pointer q]] W fun e w' => e = .returned (.int .i64 (entsT T).length) ∧ Ext W w' := fun W hW => by
    have := treeLen_any (fun b hb => Nat.lt_of_lt_of_le (hG b hb) hW.size) (hT.agree (hW.agree hG))
    rwa [treeV, hq] at this
  have hpq : p ≠ q := fun e => hd (by rw [hp, hq, e])
  have hx := ((Ext.refl w).alloc #[.pointer p] 30).alloc #[.pointer q] 30
  have his := is_any ((w.alloc (.cells #[.pointer p] 30)).alloc (.cells #[.pointer q] 30)) p q ((leadsT hS hp).ext hx) ((leadsT hT hq).ext hx)
  rw [decide_eq_false hpq] at his
  have HLS := Lib.hid hlS
  have HLT := Lib.hid hlT
  have HX := Lib.hid hx
  have hne : (((entsT S).length : Int) == ((entsT T).length : Int)) = false := beq_eq_false_iff_ne.2 (by omega)
  generalize (entsT S).length = nS at *
  generalize (entsT T).length = nT at *
  rw [treeV, treeV, hp, hq]
  clear hlS hlT hx hF hG hS hT hn hp hq hd
  go_enter Try.func76, Try.ntmps76
  go_wp2_with fail
  have b1 := Blk.new w 30 #[.pointer p]
  have b2 := Blk.new (w.alloc (.cells #[.pointer p] 30)) 30 #[.pointer q]
  refine his.mono ?_
  rintro e w1 ⟨rfl, hx1⟩
  have c1 : w1.cell? ⟨w.heap.size, 0, none⟩ = some (.pointer p) := ((b1.ext ((Ext.refl _).alloc _ _)).ext hx1).cell 0
  have c2 : w1.cell? ⟨w.heap.size + 1, 0, none⟩ = some (.pointer q) := by
    have := (b2.ext hx1).cell 0
    rwa [World.size_alloc] at this
  have hs1 := hx1.size
  rw [World.size_alloc, World.size_alloc] at hs1
  have HX1 := Lib.hid (HX.out.trans hx1)
  clear b1 b2 hx1
  go_wp2_with fail
  have l1 : w.heap.size < w1.heap.size := by omega
  have l2 : w.heap.size + 1 < w1.heap.size := by omega
  refine wp_region_held_drew (S := (fun w' => w'.cell? ⟨w.heap.size, 0, none⟩ = some (.pointer p) ∧ w'.cell? ⟨w.heap.size + 1, 0, none⟩ = some (.pointer q))) (by kernel_rfl) (⟨c1, c2⟩) (fun hHeld => ?_)
  refine held_on (i := 0) (d := (some 8)) (v := ?_) rfl rfl (by kernel_rfl) (by kernel_rfl) (by kernel_rfl) (fun _ _ _ h => h) (by rfl) hHeld ?_ ?_
  rotate_left
  focus (intro w hSw; (try dsimp only at hSw); go_simp; first | done | with_reducible rfl)
  try simp only [Act.put, List.setIfInBounds_toArray, List.set_cons_zero, List.set_cons_succ]
  refine held_on (i := 2) (d := (some 10)) (v := ?_) rfl rfl (by kernel_rfl) (by kernel_rfl) (by kernel_rfl) (fun _ _ _ h => h) (by rfl) hHeld ?_ ?_
  rotate_left
  focus (intro w hSw; (try dsimp only at hSw); go_simp; first | done | with_reducible rfl)
  try simp only [Act.put, List.setIfInBounds_toArray, List.set_cons_zero, List.set_cons_succ]
  refine held_call (i := 1) (by kernel_rfl) rfl (by rfl) (fun K hK => ?_)
  go_simp
  (refine (HLS.out _ HX1.out.drew).mono ?_; rintro e w2 ⟨rfl, hx2⟩; have d1 := (hx2.cell (o := 0) l1).trans c1; have d2 := (hx2.cell (o := 0) l2).trans c2; have m1 := Nat.lt_of_lt_of_le l1 hx2.size; have m2 := Nat.lt_of_lt_of_le l2 hx2.size)
  refine hK.out _ _ (⟨d1, d2⟩) (fun hHeld => ?_)
  clear hK K
  try simp only [Act.put, List.setIfInBounds_toArray, List.set_cons_zero, List.set_cons_succ]
  refine held_call (i := 3) (by kernel_rfl) rfl (by rfl) (fun K hK => ?_)
  go_simp
  (refine (HLT.out _ ((HX1.out.drew).trans hx2)).mono ?_; rintro e w3 ⟨rfl, hx3⟩; have e1 := (hx3.cell (o := 0) m1).trans d1; have e2 := (hx3.cell (o := 0) m2).trans d2)
  refine hK.out _ _ (⟨e1, e2⟩) (fun hHeld => ?_)
  clear hK K
  try simp only [Act.put, List.setIfInBounds_toArray, List.set_cons_zero, List.set_cons_succ]
  refine held_on (i := 4) (d := (some 12)) (v := ?_) rfl rfl (by kernel_rfl) (by kernel_rfl) (by kernel_rfl) (fun _ _ _ h => h) (by rfl) hHeld ?_ ?_
  rotate_left
  focus (intro w hSw; (try dsimp only at hSw); go_simp; first | done | with_reducible rfl)
  try simp only [Act.put, List.setIfInBounds_toArray, List.set_cons_zero, List.set_cons_succ]
  refine held_on (i := 5) (d := (some 13)) (v := ?_) rfl rfl (by kernel_rfl) (by kernel_rfl) (by kernel_rfl) (fun _ _ _ h => h) (by rfl) hHeld ?_ ?_
  rotate_left
  focus (intro w hSw; (try dsimp only at hSw); go_simp; first | done | with_reducible rfl)
  try simp only [Act.put, List.setIfInBounds_toArray, List.set_cons_zero, List.set_cons_succ]
  refine held_off (i := 6) (d := (some 14)) rfl rfl (by kernel_rfl) (by kernel_rfl) (by kernel_rfl) (fun _ _ _ h => h) (by rfl) hHeld ?_
  try simp only [Act.put, List.setIfInBounds_toArray, List.set_cons_zero, List.set_cons_succ]
  refine held_off (i := 7) (d := (some 15)) rfl rfl (by kernel_rfl) (by kernel_rfl) (by kernel_rfl) (fun _ _ _ h => h) (by rfl) hHeld ?_
  try simp only [Act.put, List.setIfInBounds_toArray, List.set_cons_zero, List.set_cons_succ]
  refine held_off (i := 8) (d := (some 16)) rfl rfl (by kernel_rfl) (by kernel_rfl) (by kernel_rfl) (fun _ _ _ h => h) (by rfl) hHeld ?_
  try simp only [Act.put, List.setIfInBounds_toArray, List.set_cons_zero, List.set_cons_succ]
  refine held_off (i := 9) (d := (some 17)) rfl rfl (by kernel_rfl) (by kernel_rfl) (by kernel_rfl) (fun _ _ _ h => h) (by rfl) hHeld ?_
  try simp only [Act.put, List.setIfInBounds_toArray, List.set_cons_zero, List.set_cons_succ]
  refine held_off (i := 10) (d := (some 18)) rfl rfl (by kernel_rfl) (by kernel_rfl) (by kernel_rfl) (fun _ _ _ h => h) (by rfl) hHeld ?_
  try simp only [Act.put, List.setIfInBounds_toArray, List.set_cons_zero, List.set_cons_succ]
  refine held_on (i := 11) (d := (some 19)) (v := ?_) rfl rfl (by kernel_rfl) (by kernel_rfl) (by kernel_rfl) (fun _ _ _ h => h) (by rfl) hHeld ?_ ?_
  rotate_left
  focus (intro w hSw; (try dsimp only at hSw); go_simp; first | done | with_reducible rfl)
  try simp only [Act.put, List.setIfInBounds_toArray, List.set_cons_zero, List.set_cons_succ]
  refine held_on (i := 12) (d := (some 4)) (v := ?_) rfl rfl (by kernel_rfl) (by kernel_rfl) (by kernel_rfl) (fun _ _ _ h => h) (by rfl) hHeld ?_ ?_
  rotate_left
  focus (intro w hSw; (try dsimp only at hSw); go_simp; first | done | with_reducible rfl)
  try simp only [Act.put, List.setIfInBounds_toArray, List.set_cons_zero, List.set_cons_succ]
  refine wpAnyH_done (by kernel_rfl) ?_ _
  go_wp2_with fail
  go_ret
  exact ⟨rfl, ((HX1.out.drew).trans hx2).trans hx3⟩
abbrev nulV : Val := .mk 1 false 0 ByteArray.empty [] [] []
abbrev E0 : ByteArray := ⟨#[]⟩
theorem aggV_zero : aggV zeroV Sl.none Sl.none = .agg #[.int .i64 0, .bool false, .int .i64 0, .string ByteArray.empty, .slice none 0 0, .slice none 0 0] := rfl
theorem get_none (W : World) : Calls Try.prog 37 #[.agg #[.pointer none], .string E0] W fun e w' => ∃ (sl so : Sl), e = .returned (.tuple #[.agg #[.int .i64 0, .bool false, .int .i64 0, .string ByteArray.empty, .slice sl.a 0 sl.c, .slice so.a 0 so.c], .bool false]) ∧ Ext W w' := by
  refine (treeGet_any (F := fun _ => False) (T := none) (fun _ h => h.elim) trivial trivial (Nat.zero_le _) E0).mono ?_
  rintro e w' ⟨sl, so, rfl, hx, -⟩
  exact ⟨sl, so, rfl, hx⟩
theorem delete_none (W : World) : Calls Try.prog 77 #[.agg #[.pointer none], .string E0] W fun e w' => e = .returned (.tuple #[.agg #[.pointer none], .bool false]) ∧ Ext W w' := by
  refine (delete_any (F := fun _ => False) (T := none) (fun _ h => h.elim) trivial trivial (Nat.zero_le _) E0).mono ?_
  rintro e w' ⟨T', rfl, hd, -, hx⟩
  generalize hT : (none : RT) = T at hd
  cases hd with
  | no h => subst hT; exact ⟨rfl, hx⟩
  | same hg hd hp h2 => cases hT
  | gone hg hd h0 => cases hT
  | down hg hd => cases hT
theorem put_none (W : World) : Calls Try.prog 36 #[.agg #[.pointer none], .string E0, .agg #[.int .i64 1, .bool false, .int .i64 0, .string ByteArray.empty, .slice none 0 0, .slice none 0 0]] W fun e w' => ∃ u : PT 0, e = .returned (.agg #[.pointer (some ⟨addr 0 u, 0, none⟩)]) ∧ u.2 = [(E0, nulV)] ∧ IsN w' (In W.heap.size w'.heap.size) 0 u ∧ Ext W w' := by
  refine (put_any (F := fun _ => False) (T := none) (v := nulV) (sl := Sl.none) (so := Sl.none) (fun _ h => h.elim) trivial trivial (Nat.zero_le _) (Nat.zero_le _) (RV.flat _ _ _ _ _ _ (by decide) (by decide) (by decide))).mono ?_
  rintro e w' ⟨T', rfl, hp, hi, hx⟩
  generalize hT : (none : RT) = T at hp
  cases hp with
  | one hw =>
    cases hw with
    | none u hu hb => exact ⟨u, rfl, hu, IsT.mono hi fun i h => h.elim (fun h => h.elim) id, hx⟩
    | some hw => cases hT
  | two hw hc hb =>
    generalize hts : [_, _] = ts at hw
    cases hw with
    | none u hu hb => cases hts
    | some hw => cases hT
theorem len_none (W : World) : Calls Try.prog 78 #[.agg #[.pointer none]] W fun e w' => e = .returned (.int .i64 0) ∧ Ext W w' :=
  treeLen_any (F := fun _ => False) (T := none) (fun _ h => h.elim) trivial
theorem entries_none (W : World) : Calls Try.prog 38 #[.agg #[.pointer none]] W fun e w' => ∃ s : Sl, e = .returned (.slice s.a 0 s.c) ∧ Ext W w' := by
  refine (treeEntries_any (F := fun _ => False) (T := none) (fun _ h => h.elim) trivial trivial (Nat.zero_le _)).mono ?_
  rintro e w' ⟨s, xs, rfl, hxs, -, hx⟩
  obtain rfl : xs = [] := List.map_eq_nil_iff.1 hxs
  exact ⟨s, rfl, hx⟩
theorem build_none (W : World) : Calls Try.prog 63 #[.slice none 0 0] W fun e w' => e = .returned (.agg #[.pointer none]) ∧ Ext W w' := by
  refine (build_any (w := W) (s := Sl.none) (xs := []) ((OE.nil W 0).es.mono fun i hi => hi.2) (Nat.zero_le _)).mono ?_
  rintro e w' ⟨T, rfl, hb, -, hx⟩
  generalize hl : List.map LE.ent [] = l at hb
  cases hb with
  | nil => exact ⟨rfl, hx⟩
  | snoc h hp => simp at hl
/-- The leaf of one key in memory. -/
structure One0 (B : Nat) (u : PT 0) (W : World) : Prop where
  tree : IsN W (Lt B) 0 u
  le : B ≤ W.heap.size
  es : u.2 = [(E0, nulV)]
theorem One0.ext {B : Nat} {u : PT 0} {W W' : World} (h : One0 B u W) (hx : Ext W W') : One0 B u W' := ⟨h.tree.agree (hx.agree fun b hb => Nat.lt_of_lt_of_le hb h.le), Nat.le_trans h.le hx.size, h.es⟩
theorem One0.ok {B : Nat} {u : PT 0} {W : World} (h : One0 B u W) : OkR (some ⟨0, u⟩) := ⟨show u.2.length ≤ 8 by rw [h.es]; simp, show 1 ≤ u.2.length by rw [h.es]; simp, show Sorted u.2 by rw [h.es]; exact List.pairwise_singleton _ _⟩
theorem One0.ents {B : Nat} {u : PT 0} {W : World} (h : One0 B u W) : entsT (some ⟨0, u⟩) = [(E0, nulV)] := h.es
theorem One0.lt {B : Nat} {u : PT 0} {W : World} (h : One0 B u W) (b : Nat) (hb : Lt B b) : b < W.heap.size := Nat.lt_of_lt_of_le hb h.le
theorem One0.delete {B : Nat} {u : PT 0} {W : World} (h : One0 B u W) : Calls Try.prog 77 #[.agg #[.pointer (some ⟨addr 0 u, 0, none⟩)], .string E0] W fun e w' => e = .returned (.tuple #[.agg #[.pointer none], .bool true]) ∧ Ext W w' := by
  refine (delete_any (T := some ⟨0, u⟩) h.lt h.tree h.ok (by rw [h.ents]; show 1 ≤ 1000000; omega) E0).mono ?_
  rintro e w' ⟨T', rfl, hd, -, hx⟩
  have hok := hd.ok h.ok
  have he := hd.ents h.ok
  rw [h.ents] at he
  have h0 : entsT T' = [] := by rw [he]; simp [delE, klt_irrefl]
  rw [h.ents]
  match T', hok, h0 with
  | none, _, _ => exact ⟨by simp [getE, rootV], hx⟩
  | some ⟨n, t⟩, hok, h0 =>
    have := ents_pos n t hok.1 hok.2.1
    have h0 : Proofs.Ytpapoalgocmlaaa.ents n t = [] := h0
    rw [h0] at this; cases this
theorem One0.len {B : Nat} {u : PT 0} {W : World} (h : One0 B u W) : Calls Try.prog 78 #[.agg #[.pointer (some ⟨addr 0 u, 0, none⟩)]] W fun e w' => e = .returned (.int .i64 1) ∧ Ext W w' := by
  have := treeLen_any (T := some ⟨0, u⟩) h.lt h.tree
  rw [h.ents] at this
  exact this
theorem One0.same {B : Nat} {u : PT 0} {W : World} (h : One0 B u W) : Calls Try.prog 76 #[.agg #[.pointer (some ⟨addr 0 u, 0, none⟩)], .agg #[.pointer none]] W fun e w' => e = .returned (.bool false) ∧ Ext W w' :=
  same_len (F := Lt B) (G := fun _ => False) (S := some ⟨0, u⟩) (T := none) h.lt (fun _ h => h.elim) h.tree trivial (by simp [rootV, ptr]) (by rw [h.ents]; simp [entsT])
theorem One0.fresh1 {B : Nat} {u : PT 0} {W : World} (h : One0 B u W) : Calls Try.prog 65 #[.agg #[.pointer none], .agg #[.pointer (some ⟨addr 0 u, 0, none⟩)]] W fun e w' => e = .returned (.int .i64 1) ∧ Ext W w' :=
  freshT W none _ 1 fun W' hx => fresh_new (h.ext hx).tree
theorem One0.fresh0 {B : Nat} {u : PT 0} {W : World} (h : One0 B u W) : Calls Try.prog 65 #[.agg #[.pointer (some ⟨addr 0 u, 0, none⟩)], .agg #[.pointer none]] W fun e w' => e = .returned (.int .i64 0) ∧ Ext W w' :=
  freshT W _ none 0 fun W' hx => fresh_nil W' _
end Go.Proofs.Ytpapoalgocmlaaa
