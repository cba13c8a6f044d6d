/- Rows of cells: slices that read as lists of cells, rows that the call owns, append. No program in sight. -/
import Derived.Test.YtpapoalgocmlaaaMem
namespace Go.Proofs.Ytpapoalgocmlaaa
open Go.RowKit

/-- A slice of n elements (size cells each) that holds the cells cs, in a block of F. -/
def Rd (w : World) (F : Nat → Prop) (size : Nat) (s : Sl) (n : Nat) (cs : List Value) : Prop :=
  ∃ b o, SlAt F s n b o ∧ cs.length = n * size ∧ ∀ j u, cs[j]? = some u → w.cell? ⟨b, o + j, none⟩ = some u
theorem Rd.agree {w w' : World} {F : Nat → Prop} {size : Nat} {s : Sl} {n : Nat} {cs : List Value} (h : Rd w F size s n cs) (ha : Agree F w w') : Rd w' F size s n cs := by
  obtain ⟨b, o, h1, h2, h3⟩ := h
  refine ⟨b, o, h1, h2, fun j u hj => (ha.cell (h1.fits ?_)).trans (h3 j u hj)⟩
  rcases Nat.eq_zero_or_pos n with h0 | h0
  · subst h0; have := (List.getElem?_eq_some_iff.1 hj).1; omega
  · exact h0
theorem Rd.mono {w : World} {F G : Nat → Prop} {size : Nat} {s : Sl} {n : Nat} {cs : List Value} (h : Rd w F size s n cs) (hG : ∀ i, F i → G i) : Rd w G size s n cs := by
  obtain ⟨b, o, h1, h2, h3⟩ := h
  exact ⟨b, o, h1.mono hG, h2, h3⟩
theorem Rd.nil (w : World) (F : Nat → Prop) (size : Nat) : Rd w F size Sl.none 0 [] := ⟨0, 0, .nil _ _, by simp, fun j u h => by simp at h⟩

theorem add_at (b o j : Nat) : (⟨b, o, none⟩ : Addr).add j = ⟨b, o + j, none⟩ := by unfold Addr.add; split <;> simp_all
/-- An owned row reads. -/
theorem Rd.of_own {w : World} {base e size n c : Nat} {a : Option Addr} {cs : List Value} (h : w.ownsRow base e size (.slice a n c) n cs) : Rd w (In base w.heap.size) size ⟨a, c⟩ n cs := by
  rcases h.2 with ⟨hv, hn⟩ | ⟨g, cap, cur, hv, hg, hh, hnc, hcm, hcs, ht⟩
  · simp only [Value.slice.injEq] at hv
    obtain ⟨rfl, rfl, rfl⟩ := hv
    have : cs = [] := List.eq_nil_of_length_eq_zero (by simpa using h.1)
    subst this
    exact Rd.nil _ _ _
  · simp only [Value.slice.injEq] at hv
    obtain ⟨rfl, -, rfl⟩ := hv
    refine ⟨g, 0, .some _ _ _ _ hnc hcm ⟨hg, lt_of_block hh⟩, h.1, fun j u hj => ?_⟩
    have := h.cells (g := g) rfl j u hj
    rw [Nat.zero_add]
    rw [Addr.add] at this
    split at this
    · rename_i h0; subst h0; exact this
    · simpa using this

/-- New blocks, and writes to one row alone; of what is frozen nothing has turned. -/
structure Wr (w w' : World) (row : Option Nat) : Prop where
  grown : w.grownBy w' row
  fz : ∀ b o, w'.frozen? ⟨b, o, none⟩ = w.frozen? ⟨b, o, none⟩
theorem Wr.refl (w : World) (row : Option Nat) : Wr w w row := ⟨⟨rfl, rfl, rfl, Nat.le_refl _, fun _ _ _ => rfl⟩, fun _ _ => rfl⟩
theorem Wr.below {w w' : World} {row : Option Nat} (h : Wr w w' row) {B : Nat} (hB : B ≤ w.heap.size) (hr : ∀ k, row = some k → B ≤ k) : Below B w w' := (Below.refl B w).grown h.grown hB hr
theorem Ext.wr {a w w' : World} {row : Option Nat} (h : Ext a w) (k : Wr w w' row) (hr : ∀ i, row = some i → a.heap.size ≤ i) : Ext a w' :=
  ⟨h.below.trans (k.below h.size hr), fun b o hb => (k.fz b o).trans (h.free b o hb)⟩
theorem Wr.agree {w w' : World} {row : Option Nat} (h : Wr w w' row) {F : Nat → Prop} (hF : ∀ i, F i → i < w.heap.size) (hr : ∀ k, row = some k → ¬ F k) : Agree F w w' :=
  fun b hb => h.grown.block b (hF b hb) (fun e => hr b e.symm hb)
theorem fz_alloc (w : World) (c : Array Value) (t : TypeId) (b o : Nat) : (w.alloc (.cells c t)).frozen? ⟨b, o, none⟩ = w.frozen? ⟨b, o, none⟩ := by
  by_cases h : b = w.heap.size
  · subst h; rw [frozen_none (Nat.le_refl _)]; simp
  · exact World.frozen?_alloc_old w _ _ h
theorem fz_setRow (w : World) (g : Nat) (cs : Array Value) (b o : Nat) : (w.setRow g cs).frozen? ⟨b, o, none⟩ = w.frozen? ⟨b, o, none⟩ := by
  by_cases h : g = b
  · subst h
    simp only [World.frozen?, World.setRow, Array.getElem?_modify, if_true]
    cases hh : w.heap[g]? with
    | none => rfl
    | some ob => cases ob <;> rfl
  · simp only [World.frozen?, World.setRow, Array.getElem?_modify, if_neg h]
/-- The block in which a slice lies. -/
def Sl.row (s : Sl) : Option Nat := s.a.map Addr.block

/-- What two copies make of a row: room, and what comes in. -/
theorem shift_list {α : Type} (C xs ys : List α) (p q z a b c d t : Nat) (hx : xs = C.take q) (hy : ys.length = z) (hpq : p ≤ q) (hq : q + z ≤ C.length) (ha : a = p + z) (hb : b = a + (xs.drop p).length) (hc : c = p) (hd : d = p + ys.length) (ht : t = q + z) :
    ((C.take a ++ xs.drop p ++ C.drop b).take c ++ ys ++ (C.take a ++ xs.drop p ++ C.drop b).drop d).take t = xs.take p ++ ys ++ xs.drop p := by
  subst ha hb hc hd ht
  have hxl : xs.length = q := by rw [hx, List.length_take]; omega
  have h1 : (C.take (c + z)).length = c + z := by rw [List.length_take]; omega
  have e1 : (C.take (c + z) ++ xs.drop c ++ C.drop (c + z + (xs.drop c).length)).take c = xs.take c := by
    rw [List.append_assoc, List.take_append_of_le_length (by omega), List.take_take, hx, List.take_take]
    congr 1; omega
  have e2 : (C.take (c + z) ++ xs.drop c ++ C.drop (c + z + (xs.drop c).length)).drop (c + ys.length) = xs.drop c ++ C.drop (c + z + (xs.drop c).length) := by
    rw [List.append_assoc, hy, List.drop_append, h1, Nat.sub_self, List.drop_zero, List.drop_eq_nil_of_le (by omega), List.nil_append]
  rw [e1, e2, ← List.append_assoc, List.take_append_of_le_length (by simp [hxl, hy]; omega), List.take_of_length_le (by simp [hxl, hy]; omega)]
theorem grow_list {α : Type} (C xs ys : List α) (p q z a b c d t : Nat) (hp : C.take p = xs.take p) (hxl : xs.length = q) (hy : ys.length = z) (hpq : p ≤ q) (hq : q + z ≤ C.length) (hc : c = p + z) (hd : d = c + (xs.drop p).length) (ha : a = p) (hb : b = p + ys.length) (ht : t = q + z) :
    ((C.take a ++ ys ++ C.drop b).take c ++ xs.drop p ++ (C.take a ++ ys ++ C.drop b).drop d).take t = xs.take p ++ ys ++ xs.drop p := by
  subst ha hb hc hd ht
  have h1 : (C.take a).length = a := by rw [List.length_take]; omega
  have e1 : (C.take a ++ ys ++ C.drop (a + ys.length)).take (a + z) = xs.take a ++ ys := by
    rw [List.take_append_of_le_length (by simp only [List.length_append, h1, hy]; omega), List.take_of_length_le (by simp only [List.length_append, h1, hy]; omega), hp]
  rw [e1, List.take_append_of_le_length (by simp [hxl, hy]; omega), List.take_of_length_le (by simp [hxl, hy]; omega)]
/-- A row that is owned: its shape. -/
theorem own_sl {w : World} {base e size n : Nat} {v : Value} {xs : List Value} (h : w.ownsRow base e size v n xs) : ∃ s : Sl, v = .slice s.a n s.c := by
  rcases h.2 with ⟨rfl, rfl⟩ | ⟨g, cap, cur, rfl, _⟩
  · exact ⟨Sl.none, rfl⟩
  · exact ⟨⟨some ⟨g, 0, none⟩, cap⟩, rfl⟩

section
variable {P : Program} (w : World)
/-- append onto an owned row, whatever the source. -/
theorem run_append_x (base : Nat) (t ty e : TypeId) (i : TypeInfo) (z : Value) (size bytes : Nat) (ht : P.underlying t = some (.slice e)) (hi : P.info? e = some i) (hz : i.zero = some z)
    (hsize : i.size = size) (hby : i.bytes = bytes) (hzs : z.cells.size = size) (_hsz : 0 < size)
    (s : Sl) (n : Nat) (xs : List Value) (hown : w.ownsRow base e size (.slice s.a n s.c) n xs)
    (F : Nat → Prop) (sx : Sl) (m : Nat) (news : List Value) (hsrc : Rd w F size sx m news) (h1 : ∀ u ∈ news, u.oneCell' = true)
    (h63 : n + m ≤ maxLen) (hbytes : (n + m) * bytes ≤ 140737488355328) (hbase : base ≤ w.heap.size) :
    ∃ (s' : Sl) (w' : World), (Builtin.append_ #[t, t] ty #[.slice s.a n s.c, .slice sx.a m sx.c]).run P w = .ok (.slice s'.a (n + m) s'.c) w' ∧
      w'.ownsRow base e size (.slice s'.a (n + m) s'.c) (n + m) (xs ++ news) ∧ Wr w w' s.row ∧ (s'.a = s.a ∨ s'.a = some ⟨w.heap.size, 0, none⟩ ∧ Wr w w' none) := by
  subst hsize
  subst hby
  have hsmall : n + m ≤ 9223372036854775807 := by simp only [maxLen] at h63; omega
  obtain ⟨b, o, hs, hl, hc⟩ := hsrc
  have hlen : (xs ++ news).length = (n + m) * i.size := by rw [List.length_append, hown.1, hl, Nat.add_mul]
  have grown : ∀ (old : Nat), 0 < n + m → 
      (w.drew.alloc (.cells (xs.toArray ++ news.toArray ++ Builtin.zeroCells z.cells (grownCap w (n + m) old e - (n + m))) e)).ownsRow base e i.size
        (.slice (some ⟨w.heap.size, 0, none⟩) (n + m) (grownCap w (n + m) old e)) (n + m) (xs ++ news) := by
    intro old _
    have hge := grownCap_ge w (n + m) old e
    have hcm : grownCap w (n + m) old e ≤ maxLen := grownCap_le_maxLen w (n + m) old e h63
    refine ⟨hlen, .inr ⟨w.heap.size, _, _, rfl, hbase, heap_alloc_new w.drew _, hge, hcm, ?_, ?_⟩⟩
    · simp only [Array.size_append, List.size_toArray, size_zeroCells, hzs, hown.1, hl, ← Nat.add_mul]
      congr 1
      omega
    · simp only [Array.toList_append, List.append_assoc]
      rw [← List.append_assoc, ← hlen]
      exact List.take_left
  have wr : ∀ (c : Array Value) (row : Option Nat), Wr w (w.drew.alloc (.cells c e)) row := fun c row =>
    ⟨⟨rfl, rfl, rfl, by simp, fun k hk _ => Below.heap_alloc w.drew _ k hk⟩, fun b o => fz_alloc w.drew c e b o⟩
  cases hs with
  | nil =>
    have hn : news = [] := List.eq_nil_of_length_eq_zero (by simpa using hl)
    subst hn
    refine ⟨s, w, ?_, by simpa using hown, Wr.refl _ _, .inl rfl⟩
    rcases hown.2 with ⟨hv, hn0⟩ | ⟨g, cap, cur, hv, _, _, hnc, _⟩
    · simp only [Value.slice.injEq] at hv
      obtain ⟨ha, rfl, hc0⟩ := hv
      rw [ha, hc0]
      simp [Builtin.append_, run_underlying ht, sizeOf, typeInfo, hi, Builtin.lenOf, Builtin.firstCells]
    · simp only [Value.slice.injEq] at hv
      obtain ⟨ha, -, hc0⟩ := hv
      rw [ha, hc0]
      simp [Builtin.append_, run_underlying ht, sizeOf, typeInfo, hi, Builtin.lenOf, Builtin.firstCells, hnc, storeCells]
  | some _ c _ _ hmc hcm hb =>
    have hnews : ∀ j u, news[j]? = some u → w.cell? ((⟨b, o, none⟩ : Addr).add j) = some u := fun j u hj => by rw [add_at]; exact hc j u hj
    rcases hown.2 with ⟨hv, hn0⟩ | ⟨g, cap, cur, hv, hbg, hg, hnc, hcm', hcs, htake⟩
    · simp only [Value.slice.injEq] at hv
      obtain ⟨ha, rfl, hc0⟩ := hv
      have hx : xs = [] := List.eq_nil_of_length_eq_zero (by simpa using hown.1)
      subst hx
      by_cases hm : m = 0
      · subst hm
        have hn : news = [] := List.eq_nil_of_length_eq_zero (by simpa using hl)
        subst hn
        refine ⟨Sl.none, w, ?_, World.ownsRow_nil w base e i.size, Wr.refl _ _, .inl ha.symm⟩
        rw [ha, hc0]
        simp [Builtin.append_, run_underlying ht, sizeOf, typeInfo, hi, Builtin.lenOf, Builtin.firstCells, loadCells, loadCellsFrom]
      · have hr := run_append_nil (P := P) w t ty e i z ht hi hz ⟨b, o, none⟩ m c news hl hnews (by omega) (by omega) (by have hb := hbytes; simp only [Nat.zero_add] at hb; omega)
        have hgr := grown 0 (by omega)
        simp only [Nat.zero_add, List.nil_append, Array.empty_append] at hgr ⊢
        refine ⟨⟨some ⟨w.heap.size, 0, none⟩, grownCap w m 0 e⟩, _, ?_, hgr, wr _ _, .inr ⟨rfl, wr _ _⟩⟩
        rw [ha, hc0]
        exact hr
    · simp only [Value.slice.injEq] at hv
      obtain ⟨ha, -, hc0⟩ := hv
      by_cases hroom : n + m ≤ cap
      · have hfit : n * i.size + news.length ≤ cur.size := by rw [hl, hcs, ← Nat.add_mul]; exact Nat.mul_le_mul_right _ hroom
        have hr := run_append_room (P := P) w t ty e i ht hi g n cap cur hg ⟨b, o, none⟩ m c news hl hnews h1 hroom hfit
        refine ⟨⟨some ⟨g, 0, none⟩, cap⟩, _, by rw [ha, hc0]; exact hr, ⟨hlen, .inr ⟨g, cap, _, rfl, hbg, setRow_heap w g cur _ e _ hg, hroom, hcm', ?_, ?_⟩⟩,
          ⟨⟨rfl, rfl, rfl, by simp, fun k _ hk => setRow_other w g k _ (fun e => hk (by simp [Sl.row, ha, e]))⟩, fun b o => fz_setRow _ _ _ _ _⟩, .inl ha.symm⟩
        · simp only [List.size_toArray, List.length_append, List.length_take, List.length_drop, Array.length_toList]
          omega
        · rw [htake, ← hlen]
          exact List.take_left
      · rw [ha, hc0] at hown
        have holds : ∀ j u, xs[j]? = some u → w.cell? ((⟨g, 0, none⟩ : Addr).add j) = some u := hown.cells (g := g) rfl
        have hr := run_append_grow (P := P) w t ty e i z ht hi hz ⟨g, 0, none⟩ n cap xs hown.1 holds ⟨b, o, none⟩ m c news hl hnews (by omega) (by omega) (growslice_fits (by omega) hbytes)
        refine ⟨⟨some ⟨w.heap.size, 0, none⟩, grownCap w (n + m) cap e⟩, _, by rw [ha, hc0]; exact hr, grown cap (by omega), wr _ _, .inr ⟨rfl, wr _ _⟩⟩

theorem wp_append_x {o : Oper} {a : Act} {K : Act → World → Prop} {Q : Exit → Act → World → Prop} (s' x : Operand) (t : TypeId)
    (ho : o.op = .call { callee := .builtin .append, args := #[s', x], argTypes := #[t, t] })
    (base : Nat) (e : TypeId) (i : TypeInfo) (z : Value) (size bytes : Nat) (ht : P.underlying t = some (.slice e)) (hi : P.info? e = some i) (hz : i.zero = some z)
    (hsize : i.size = size) (hby : i.bytes = bytes) (hzs : z.cells.size = size) (hsz : 0 < size)
    (s : Sl) (n : Nat) (xs : List Value) (hs : a.eval s' = .slice s.a n s.c) (hown : w.ownsRow base e size (.slice s.a n s.c) n xs)
    (F : Nat → Prop) (sx : Sl) (m : Nat) (news : List Value) (hx : a.eval x = .slice sx.a m sx.c) (hsrc : Rd w F size sx m news) (h1 : ∀ u ∈ news, u.oneCell' = true)
    (h63 : n + m ≤ maxLen) (hbytes : (n + m) * bytes ≤ 140737488355328) (hbase : base ≤ w.heap.size)
    (h : ∀ (s' : Sl) (w' : World), w'.ownsRow base e size (.slice s'.a (n + m) s'.c) (n + m) (xs ++ news) → Wr w w' s.row → (s'.a = s.a ∨ s'.a = some ⟨w.heap.size, 0, none⟩ ∧ Wr w w' none) → K (a.put o.dst (.slice s'.a (n + m) s'.c)) w') : o.wp P a w K Q := by
  obtain ⟨v', w', hr, h2, h3, h4⟩ := run_append_x (P := P) w base t o.type e i z size bytes ht hi hz hsize hby hzs hsz s n xs hown F sx m news hsrc h1 h63 hbytes hbase
  unfold Oper.wp execOp
  simp only [ho, resolve, invoke, builtin, Sem.run_bind, Sem.run_pure, Result.andThen_ok, List.map_toArray, List.map_cons, List.map_nil, hs, hx, hr]
  exact h v' w' h2 h3 h4
theorem wpList_append_x {ops : Array Oper} {rest : List Oper} {o : Oper} {a : Act} {Q : Exit → Act → World → Prop} (hgd : o.guard = none) (s' x : Operand) (t : TypeId)
    (ho : o.op = .call { callee := .builtin .append, args := #[s', x], argTypes := #[t, t] })
    (base : Nat) (e : TypeId) (i : TypeInfo) (z : Value) (size bytes : Nat) (ht : P.underlying t = some (.slice e)) (hi : P.info? e = some i) (hz : i.zero = some z)
    (hsize : i.size = size) (hby : i.bytes = bytes) (hzs : z.cells.size = size) (hsz : 0 < size)
    (s : Sl) (n : Nat) (xs : List Value) (hs : a.eval s' = .slice s.a n s.c) (hown : w.ownsRow base e size (.slice s.a n s.c) n xs)
    (F : Nat → Prop) (sx : Sl) (m : Nat) (news : List Value) (hx : a.eval x = .slice sx.a m sx.c) (hsrc : Rd w F size sx m news) (h1 : ∀ u ∈ news, u.oneCell' = true)
    (h63 : n + m ≤ maxLen) (hbytes : (n + m) * bytes ≤ 140737488355328) (hbase : base ≤ w.heap.size)
    (h : ∀ (s' : Sl) (w' : World), w'.ownsRow base e size (.slice s'.a (n + m) s'.c) (n + m) (xs ++ news) → Wr w w' s.row → (s'.a = s.a ∨ s'.a = some ⟨w.heap.size, 0, none⟩ ∧ Wr w w' none) → wpList P ops Q rest (a.put o.dst (.slice s'.a (n + m) s'.c)) w') : wpList P ops Q (o :: rest) a w :=
  wpList_plain hgd fun _ hK => wp_append_x w s' x t ho base e i z size bytes ht hi hz hsize hby hzs hsz s n xs hs hown F sx m news hx hsrc h1 h63 hbytes hbase fun v' w' h2 h3 h4 => hK _ _ (h v' w' h2 h3 h4)
end

section
variable {P : Program} (w : World)
/-- copy into a row that is known whole. -/
theorem run_copy_x (dT sT ty elem : TypeId) (size : Nat) (g o dLen dCap : Nat) (sx : Sl) (m : Nat) (cur : Array Value) (t : TypeId) (cs : List Value)
    (hu : P.underlying dT = some (.slice elem)) (hs : (P.info? elem).map (·.size) = some size)
    (hg : w.heap[g]? = some (.cells cur t (0, 0))) (hn : cs.length = Nat.min m dLen * size) (hnil : sx.a = none → cs = [])
    (hsrc : ∀ b o', sx.a = some ⟨b, o', none⟩ → ∀ j v, cs[j]? = some v → w.cell? ⟨b, o' + j, none⟩ = some v) (hspot : ∀ a, sx.a = some a → a.spot = none) (hfit : o + cs.length ≤ cur.size) (h1 : ∀ v ∈ cs, v.oneCell' = true) :
    (Builtin.copy_ #[dT, sT] ty #[.slice (some ⟨g, o, none⟩) dLen dCap, .slice sx.a m sx.c]).run P w =
      .ok (goInt (Nat.min m dLen)) (w.setRow g (cur.toList.take o ++ cs ++ cur.toList.drop (o + cs.length)).toArray) := by
  have hst := run_storeCells_at P g o t cs 0 cur w hg (by simpa using hfit) h1
  obtain ⟨i, hq, hi⟩ : ∃ i, P.info? elem = some i ∧ i.size = size := by
    cases hq : P.info? elem with
    | none => simp [hq] at hs
    | some i => exact ⟨i, rfl, by simpa [hq] using hs⟩
  obtain ⟨sa, sc⟩ := sx
  cases sa with
  | none =>
    have hc := hnil rfl
    subst hc
    have hst' : (storeCells ⟨g, o, none⟩ []).run P w = .ok () (w.setRow g (cur.toList.take o ++ [] ++ cur.toList.drop (o + 0)).toArray) := by simpa using hst
    simp [Builtin.copy_, run_underlying hu, Builtin.lenOf, Builtin.firstCells, sizeOf, typeInfo, hq, hst']
  | some a =>
    obtain ⟨b, o', sp⟩ := a
    have hsp := hspot _ rfl
    dsimp only at hsp
    subst hsp
    have hl := run_firstCells_some (P := P) w size (Nat.min m dLen) ⟨b, o', none⟩ m sc cs hn (fun j v hj => by rw [add_at]; exact hsrc b o' rfl j v hj)
    simp only [Nat.add_zero] at hst
    simp [Builtin.copy_, run_underlying hu, Builtin.lenOf, sizeOf, typeInfo, hq, hi, hl, hst]
theorem wp_copy_x {o : Oper} {a : Act} {K : Act → World → Prop} {Q : Exit → Act → World → Prop} (d s : Operand) (t t' : TypeId)
    (ho : o.op = .call { callee := .builtin .copy, args := #[d, s], argTypes := #[t, t'] }) (v u : Value) (hd : a.eval d = v) (hs : a.eval s = u) {v' : Value} {w' : World}
    (hr : (Builtin.copy_ #[t, t'] o.type #[v, u]).run P w = .ok v' w') (h : K (a.put o.dst v') w') : o.wp P a w K Q := by
  unfold Oper.wp execOp
  simp only [ho, resolve, invoke, builtin, Sem.run_bind, Sem.run_pure, Result.andThen_ok, List.map_toArray, List.map_cons, List.map_nil, hd, hs, hr]
  exact h
theorem wpList_copy_x {ops : Array Oper} {rest : List Oper} {o : Oper} {a : Act} {Q : Exit → Act → World → Prop} (hgd : o.guard = none) (d s : Operand) (t t' : TypeId)
    (ho : o.op = .call { callee := .builtin .copy, args := #[d, s], argTypes := #[t, t'] }) (v u : Value) (hd : a.eval d = v) (hs : a.eval s = u) {v' : Value} {w' : World}
    (hr : (Builtin.copy_ #[t, t'] o.type #[v, u]).run P w = .ok v' w') (h : wpList P ops Q rest (a.put o.dst v') w') : wpList P ops Q (o :: rest) a w :=
  wpList_plain hgd fun _ hK => wp_copy_x w d s t t' ho v u hd hs hr (hK _ _ h)
theorem step_copy_x {ops : Array Oper} {o : Oper} {a : Act} {K : Act → World → Prop} {Q : Exit → Act → World → Prop} {E : Prop} (hgd : o.guard = none) (d s : Operand) (t t' : TypeId)
    (ho : o.op = .call { callee := .builtin .copy, args := #[d, s], argTypes := #[t, t'] }) (v u : Value) (hd : a.eval d = v) (hs : a.eval s = u) {v' : Value} {w' : World}
    (hr : (Builtin.copy_ #[t, t'] o.type #[v, u]).run P w = .ok v' w') (h : K (a.put o.dst v') w') :
    if Region.wanted o (yielded ops a.tmps) = true then Oper.wp P o a w K Q else E := by
  have hw : Region.wanted o (yielded ops a.tmps) = true := by simp [Region.wanted, hgd]
  rw [if_pos hw]
  exact wp_copy_x w d s t t' ho v u hd hs hr h
theorem wpList_append_run {ops : Array Oper} {rest : List Oper} {o : Oper} {a : Act} {Q : Exit → Act → World → Prop} (hgd : o.guard = none) (d s : Operand) (t t' : TypeId)
    (ho : o.op = .call { callee := .builtin .append, args := #[d, s], argTypes := #[t, t'] }) (v u : Value) (hd : a.eval d = v) (hs : a.eval s = u) {v' : Value} {w' : World}
    (hr : (Builtin.append_ #[t, t'] o.type #[v, u]).run P w = .ok v' w') (h : wpList P ops Q rest (a.put o.dst v') w') : wpList P ops Q (o :: rest) a w := by
  refine wpList_plain hgd fun _ hK => ?_
  unfold Oper.wp execOp
  simp only [ho, resolve, invoke, builtin, Sem.run_bind, Sem.run_pure, Result.andThen_ok, List.map_toArray, List.map_cons, List.map_nil, hd, hs, hr]
  exact hK _ _ h
/-- A row written anew. -/
theorem Wr.setRow {g : Nat} (cs : Array Value) : Wr w (w.setRow g cs) (some g) :=
  ⟨⟨rfl, rfl, rfl, by simp, fun k _ hk => setRow_other w g k _ (fun e => hk (by simp [e]))⟩, fun b o => fz_setRow _ _ _ _ _⟩
theorem Wr.trans {a b c : World} {r : Option Nat} (h : Wr a b r) {r' : Option Nat} (k : Wr b c r') (hr : ∀ i, r' = some i → r = some i ∨ a.heap.size ≤ i) : Wr a c r :=
  ⟨⟨k.grown.os.trans h.grown.os, k.grown.tape.trans h.grown.tape, k.grown.output.trans h.grown.output, Nat.le_trans h.grown.size k.grown.size, fun i hi hne => (k.grown.block i (Nat.lt_of_lt_of_le hi h.grown.size) (fun e => by
    rcases hr i e.symm with hh | hh
    · exact hne hh.symm
    · omega)).trans (h.grown.block i hi hne)⟩, fun b o => (k.fz b o).trans (h.fz b o)⟩
theorem Wr.drew {a b : World} {r : Option Nat} (h : Wr a b r) : Wr a b.drew r := ⟨⟨h.grown.os, h.grown.tape, h.grown.output, h.grown.size, h.grown.block⟩, h.fz⟩
theorem Wr.drewN {a b : World} {r : Option Nat} (h : Wr a b r) (n : Nat) : Wr a (b.drewN n) r := ⟨⟨h.grown.os, h.grown.tape, h.grown.output, h.grown.size, h.grown.block⟩, h.fz⟩
theorem Wr.alloc {a b : World} {r : Option Nat} (h : Wr a b r) (c : Array Value) (t : TypeId) : Wr a (b.alloc (.cells c t)) r :=
  ⟨⟨h.grown.os, h.grown.tape, h.grown.output, by have := h.grown.size; simp; omega, fun i hi hne => (Below.heap_alloc b _ i (Nat.lt_of_lt_of_le hi h.grown.size)).trans (h.grown.block i hi hne)⟩, fun b' o => (fz_alloc b c t b' o).trans (h.fz b' o)⟩
end
end Go.Proofs.Ytpapoalgocmlaaa
