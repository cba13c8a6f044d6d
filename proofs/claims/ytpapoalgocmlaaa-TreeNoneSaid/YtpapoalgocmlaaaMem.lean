/- The words for memory: worlds that grow, values of the program as data and how they lie in memory. No program in sight. -/
import Derived.WalkKit
import Derived.WalkLawsBesides
import Derived.WalkSpells
import Derived.Outline
import Derived.Deep.RegionHeld3
import Derived.Deep.DeepFit
import Derived.Deep.DeepCutAuto
import Derived.Deep.QuietTactic
import Derived.BigQuiet
import Derived.Lib.Hide
namespace Go.Proofs.Ytpapoalgocmlaaa
open Go.RowKit

/-- The world has grown: what was there is as it was; what is new is not frozen. -/
structure Ext (w w' : World) : Prop where
  below : Below w.heap.size w w'
  free : ∀ b o, w.heap.size ≤ b → w'.frozen? ⟨b, o, none⟩ = false

theorem frozen_none {w : World} {b o : Nat} (h : w.heap.size ≤ b) : w.frozen? ⟨b, o, none⟩ = false := by
  have : w.heap[b]? = none := by simp; omega
  simp [World.frozen?, this]
theorem Ext.refl (w : World) : Ext w w := ⟨Below.refl _ _, fun _ _ h => frozen_none h⟩
theorem Ext.size {w w' : World} (h : Ext w w') : w.heap.size ≤ w'.heap.size := h.below.size
theorem Ext.trans {a b c : World} (h : Ext a b) (k : Ext b c) : Ext a c := by
  refine ⟨h.below.trans (k.below.mono h.size), fun i o hi => ?_⟩
  rcases Nat.lt_or_ge i b.heap.size with hl | hl
  · rw [k.below.frozen (p := ⟨i, o, none⟩) hl]; exact h.free i o hi
  · exact k.free i o hl
theorem Ext.drew {a w : World} (h : Ext a w) : Ext a w.drew := ⟨h.below.drew, fun b o hb => h.free b o hb⟩
theorem Ext.drewN {a w : World} (h : Ext a w) (n : Nat) : Ext a (w.drewN n) := ⟨below_drewN h.below n, fun b o hb => h.free b o hb⟩
theorem Ext.alloc {a w : World} (h : Ext a w) (c : Array Value) (t : TypeId) : Ext a (w.alloc (.cells c t)) := by
  refine h.trans ⟨(Below.refl _ _).alloc (Nat.le_refl _) _, fun b o hb => ?_⟩
  by_cases hb' : b = w.heap.size
  · subst hb'; simp
  · exact frozen_none (by simp; omega)
theorem Ext.setCell {a w : World} (h : Ext a w) {p : Addr} (hp : a.heap.size ≤ p.block) (u : Value) : Ext a (w.setCell p u) :=
  ⟨h.below.setCell hp u, fun b o hb => by rw [World.frozen?_setCell]; exact h.free b o hb⟩
theorem Ext.cell {w w' : World} (h : Ext w w') {b o : Nat} (hp : b < w.heap.size) : w'.cell? ⟨b, o, none⟩ = w.cell? ⟨b, o, none⟩ := h.below.cell (p := ⟨b, o, none⟩) hp
theorem Ext.frozen {w w' : World} (h : Ext w w') {b o : Nat} (hp : b < w.heap.size) : w'.frozen? ⟨b, o, none⟩ = w.frozen? ⟨b, o, none⟩ := h.below.frozen (p := ⟨b, o, none⟩) hp
theorem Ext.heap {w w' : World} (h : Ext w w') {b : Nat} (hp : b < w.heap.size) : w'.heap[b]? = w.heap[b]? := h.below.block b hp
/-- What is read behind a call: the old cells, as two rules for the walk. -/
theorem Ext.olds {w w' : World} (h : Ext w w') : (∀ b o, b < w.heap.size → w'.cell? ⟨b, o, none⟩ = w.cell? ⟨b, o, none⟩) ∧ (∀ b o, b < w.heap.size → w'.frozen? ⟨b, o, none⟩ = w.frozen? ⟨b, o, none⟩) :=
  ⟨fun _ _ hb => h.cell hb, fun _ _ hb => h.frozen hb⟩

/-- On the blocks of F both worlds are one. -/
def Agree (F : Nat → Prop) (w w' : World) : Prop := ∀ b, F b → w'.heap[b]? = w.heap[b]?
theorem Agree.cell {F : Nat → Prop} {w w' : World} (h : Agree F w w') {b o : Nat} (hb : F b) : w'.cell? ⟨b, o, none⟩ = w.cell? ⟨b, o, none⟩ := World.cell?_of_block (w := w) (a := ⟨b, o, none⟩) (h b hb)
theorem Agree.of_below {B : Nat} {w w' : World} (h : Below B w w') {F : Nat → Prop} (hF : ∀ b, F b → b < B) : Agree F w w' := fun b hb => h.block b (hF b hb)
theorem Ext.agree {w w' : World} (h : Ext w w') {F : Nat → Prop} (hF : ∀ b, F b → b < w.heap.size) : Agree F w w' := Agree.of_below h.below hF
theorem Agree.setCell {F : Nat → Prop} (w : World) (p : Addr) (u : Value) (hp : ¬ F p.block) : Agree F w (w.setCell p u) := fun b hb => Below.heap_setCell w p u b (fun e => hp (e ▸ hb))
theorem Agree.alloc {F : Nat → Prop} (w : World) (o : Obj) (hF : ∀ b, F b → b < w.heap.size) : Agree F w (w.alloc o) := fun b hb => Below.heap_alloc w o b (hF b hb)
theorem Agree.drew {F : Nat → Prop} (w : World) : Agree F w w.drew := fun _ _ => rfl
theorem Agree.drewN {F : Nat → Prop} (w : World) (n : Nat) : Agree F w (w.drewN n) := fun _ _ => rfl
theorem Agree.trans {F : Nat → Prop} {a b c : World} (h : Agree F a b) (k : Agree F b c) : Agree F a c := fun i hi => (k i hi).trans (h i hi)
theorem Agree.refl {F : Nat → Prop} (w : World) : Agree F w w := fun _ _ => rfl
theorem Agree.mono {F G : Nat → Prop} {a b : World} (h : Agree F a b) (hG : ∀ i, G i → F i) : Agree G a b := fun i hi => h i (hG i hi)

/-- Blocks below n. -/
abbrev Lt (n : Nat) : Nat → Prop := fun b => b < n
/-- Blocks from m on, below n. -/
abbrev In (m n : Nat) : Nat → Prop := fun b => m ≤ b ∧ b < n

/-- Where a slice lies: its address and its capacity. -/
structure Sl where
  a : Option Addr
  c : Nat
/-- The slice value of n elements that lies there. -/
abbrev Sl.v (s : Sl) (n : Nat) : Value := .slice s.a n s.c
abbrev Sl.none : Sl := ⟨Option.none, 0⟩

/-- A slice of n elements that lies (where it has any) in block b, from cell o on; b is one of F. -/
inductive SlAt (F : Nat → Prop) : Sl → Nat → Nat → Nat → Prop
  | nil (b o : Nat) : SlAt F ⟨Option.none, 0⟩ 0 b o
  | some (n c b o : Nat) (h : n ≤ c) (hc : c ≤ maxLen) (hb : F b) : SlAt F ⟨Option.some ⟨b, o, Option.none⟩, c⟩ n b o
theorem SlAt.mono {F G : Nat → Prop} {v : Sl} {n b o : Nat} (h : SlAt F v n b o) (hG : ∀ i, F i → G i) : SlAt G v n b o := by
  cases h with
  | nil => exact .nil _ _
  | some _ c _ _ h hc hb => exact .some _ c _ _ h hc (hG _ hb)
theorem SlAt.fits {F : Nat → Prop} {v : Sl} {n b o : Nat} (h : SlAt F v n b o) (hn : 0 < n) : F b := by
  cases h with
  | nil => omega
  | some _ c _ _ h hc hb => exact hb
theorem SlAt.eq {F : Nat → Prop} {v : Sl} {n b o : Nat} (h : SlAt F v n b o) (hn : 0 < n) : v.a = Option.some ⟨b, o, Option.none⟩ ∧ n ≤ v.c ∧ v.c ≤ maxLen := by
  cases h with
  | nil => omega
  | some _ c _ _ h hc hb => exact ⟨rfl, h, hc⟩

/-- A value of the program's, as data: its kind, what it has of each kind; an object's keys and values lie in two lists. -/
inductive Val where
  | mk (kind : Int) (b : Bool) (i : Int) (t : ByteArray) (l : List Val) (ok : List ByteArray) (ov : List Val)
def Val.kind : Val → Int | .mk k _ _ _ _ _ _ => k
def Val.b : Val → Bool | .mk _ b _ _ _ _ _ => b
def Val.i : Val → Int | .mk _ _ i _ _ _ _ => i
def Val.t : Val → ByteArray | .mk _ _ _ t _ _ _ => t
def Val.l : Val → List Val | .mk _ _ _ _ l _ _ => l
def Val.ok : Val → List ByteArray | .mk _ _ _ _ _ ok _ => ok
def Val.ov : Val → List Val | .mk _ _ _ _ _ _ ov => ov

theorem Val.sz_pos (d : Val) : 0 < SizeOf.sizeOf d := by cases d; simp only [Val.mk.sizeOf_spec]; omega
theorem Val.sz_l {k : Int} {b : Bool} {i : Int} {t : ByteArray} {l : List Val} {ok : List ByteArray} {ov : List Val} {j : Nat} {d : Val} (h : l[j]? = some d) : SizeOf.sizeOf d < SizeOf.sizeOf (Val.mk k b i t l ok ov) := by
  have := List.sizeOf_lt_of_mem (List.mem_of_getElem? h)
  simp only [Val.mk.sizeOf_spec]; omega
theorem Val.sz_o {k : Int} {b : Bool} {i : Int} {t : ByteArray} {l : List Val} {ok : List ByteArray} {ov : List Val} {j : Nat} {d : Val} (h : ov[j]? = some d) : SizeOf.sizeOf d < SizeOf.sizeOf (Val.mk k b i t l ok ov) := by
  have := List.sizeOf_lt_of_mem (List.mem_of_getElem? h)
  simp only [Val.mk.sizeOf_spec]; omega

/-- The six cells of a value from cell o of block b on. -/
structure VCells (w : World) (b o : Nat) (d : Val) (sl so : Sl) : Prop where
  c0 : w.cell? ⟨b, o, none⟩ = some (.int .i64 d.kind)
  c1 : w.cell? ⟨b, o + 1, none⟩ = some (.bool d.b)
  c2 : w.cell? ⟨b, o + 2, none⟩ = some (.int .i64 d.i)
  c3 : w.cell? ⟨b, o + 3, none⟩ = some (.string d.t)
  c4 : w.cell? ⟨b, o + 4, none⟩ = some (.slice sl.a d.l.length sl.c)
  c5 : w.cell? ⟨b, o + 5, none⟩ = some (.slice so.a d.ok.length so.c)
theorem VCells.agree {w w' : World} {b o : Nat} {d : Val} {sl so : Sl} (h : VCells w b o d sl so) {F : Nat → Prop} (ha : Agree F w w') (hb : F b) : VCells w' b o d sl so :=
  ⟨(ha.cell hb).trans h.c0, (ha.cell hb).trans h.c1, (ha.cell hb).trans h.c2, (ha.cell hb).trans h.c3, (ha.cell hb).trans h.c4, (ha.cell hb).trans h.c5⟩

/-- What a value's two slices lead to in memory (all of it in blocks of F) is what the datum has. -/
inductive RV (w : World) (F : Nat → Prop) : Val → Sl → Sl → Prop
  | mk {kind : Int} {b : Bool} {i : Int} {t : ByteArray} {l : List Val} {ok : List ByteArray} {ov : List Val} {sl so : Sl} (bl fl bo fo : Nat) (cl co : Nat → Sl × Sl)
      (hl : SlAt F sl l.length bl fl) (ho : SlAt F so ok.length bo fo) (hov : ov.length = ok.length)
      (el : ∀ j d, l[j]? = some d → VCells w bl (fl + j * 6) d (cl j).1 (cl j).2)
      (rl : ∀ j d, l[j]? = some d → RV w F d (cl j).1 (cl j).2)
      (ek : ∀ j k, ok[j]? = some k → w.cell? ⟨bo, fo + j * 7, none⟩ = some (.string k) ∧ k.size ≤ maxLen)
      (eo : ∀ j d, ov[j]? = some d → VCells w bo (fo + j * 7 + 1) d (co j).1 (co j).2)
      (ro : ∀ j d, ov[j]? = some d → RV w F d (co j).1 (co j).2)
      (bk : (Lit.int .i64 kind).wf = true) (bi : (Lit.int .i64 i).wf = true) (bt : t.size ≤ maxLen)
      (nl : l.length * 88 ≤ 140737488355328) (no : ok.length * 104 ≤ 140737488355328) : RV w F (.mk kind b i t l ok ov) sl so

theorem lt_length {α : Type} {l : List α} {j : Nat} {d : α} (h : l[j]? = some d) : 0 < l.length := Nat.lt_of_le_of_lt (Nat.zero_le _) (List.getElem?_eq_some_iff.1 h).1
theorem RV.agree {w w' : World} {F : Nat → Prop} {d : Val} {sl so : Sl} (h : RV w F d sl so) (ha : Agree F w w') : RV w' F d sl so := by
  induction h with
  | mk bl fl bo fo cl co hl ho hov el rl ek eo ro bk bi bt nl no ihl iho =>
    exact .mk bl fl bo fo cl co hl ho hov (fun j d hj => (el j d hj).agree ha (hl.fits (lt_length hj))) (fun j d hj => ihl j d hj) (fun j k hj => ⟨(ha.cell (ho.fits (lt_length hj))).trans (ek j k hj).1, (ek j k hj).2⟩)
      (fun j d hj => (eo j d hj).agree ha (ho.fits (hov ▸ lt_length hj))) (fun j d hj => iho j d hj) bk bi bt nl no
theorem RV.mono {w : World} {F G : Nat → Prop} {d : Val} {sl so : Sl} (h : RV w F d sl so) (hG : ∀ i, F i → G i) : RV w G d sl so := by
  induction h with
  | mk bl fl bo fo cl co hl ho hov el rl ek eo ro bk bi bt nl no ihl iho =>
    exact .mk bl fl bo fo cl co (hl.mono hG) (ho.mono hG) hov el (fun j d hj => ihl j d hj) ek eo (fun j d hj => iho j d hj) bk bi bt nl no
theorem RV.ext {w w' : World} {F : Nat → Prop} {d : Val} {sl so : Sl} (h : RV w F d sl so) (he : Ext w w') (hF : ∀ b, F b → b < w.heap.size) : RV w' F d sl so := h.agree (he.agree hF)

/-- A row of values: n of them at block b from o on. -/
structure RL (w : World) (F : Nat → Prop) (b o : Nat) (l : List Val) (c : Nat → Sl × Sl) : Prop where
  cells : ∀ j d, l[j]? = some d → VCells w b (o + j * 6) d (c j).1 (c j).2
  reads : ∀ j d, l[j]? = some d → RV w F d (c j).1 (c j).2
/-- A row of members, likewise. -/
structure RO (w : World) (F : Nat → Prop) (b o : Nat) (ok : List ByteArray) (ov : List Val) (c : Nat → Sl × Sl) : Prop where
  keys : ∀ j k, ok[j]? = some k → w.cell? ⟨b, o + j * 7, none⟩ = some (.string k) ∧ k.size ≤ maxLen
  cells : ∀ j d, ov[j]? = some d → VCells w b (o + j * 7 + 1) d (c j).1 (c j).2
  reads : ∀ j d, ov[j]? = some d → RV w F d (c j).1 (c j).2

/-- A row of n elements of 'size' cells each, of type t, in block B; nothing of it is frozen. -/
def Filling (wr : World) (B t size n : Nat) : Prop := ∃ arr, wr.heap[B]? = some (.cells arr t (0, 0)) ∧ arr.size = n * size
theorem Filling.agree {w w' : World} {B t size n : Nat} (h : Filling w B t size n) {F : Nat → Prop} (ha : Agree F w w') (hF : F B) : Filling w' B t size n := by
  obtain ⟨arr, h1, h2⟩ := h; exact ⟨arr, (ha B hF).trans h1, h2⟩
theorem Filling.lt {w : World} {B t size n : Nat} (h : Filling w B t size n) : B < w.heap.size := by obtain ⟨arr, h1, _⟩ := h; exact lt_of_block h1
theorem Filling.frozen {w : World} {B t size n : Nat} (h : Filling w B t size n) (o : Nat) : w.frozen? ⟨B, o, none⟩ = false := by
  obtain ⟨arr, h1, h2⟩ := h; simp [World.frozen?, h1]
theorem Filling.cell {w : World} {B t size n : Nat} (h : Filling w B t size n) {o : Nat} (ho : o < n * size) : ∃ v, w.cell? ⟨B, o, none⟩ = some v := by
  obtain ⟨arr, h1, h2⟩ := h
  exact ⟨arr[o]'(by omega), by rw [cell_of_row w B o arr t (0, 0) h1]; simp⟩
theorem Filling.setCell {w : World} {B t size n : Nat} (h : Filling w B t size n) (p : Addr) (u : Value) : Filling (w.setCell p u) B t size n := by
  obtain ⟨arr, h1, h2⟩ := h
  by_cases hp : B = p.block
  · subst hp
    refine ⟨if p.spot.isSome then arr else arr.setIfInBounds p.off u, ?_, ?_⟩
    · simp [World.setCell, Array.getElem?_modify, h1]
    · split <;> simp [h2]
  · exact ⟨arr, (Below.heap_setCell w p u B hp).trans h1, h2⟩

/-- A block that is known whole. -/
def Blk (w : World) (g : Nat) (t : TypeId) (cs : Array Value) : Prop := w.heap[g]? = some (.cells cs t (0, 0))
section
variable {w w' : World} {g : Nat} {t : TypeId} {cs : Array Value}
theorem Blk.lt (h : Blk w g t cs) : g < w.heap.size := lt_of_block h
theorem Blk.cell (h : Blk w g t cs) (i : Nat) : w.cell? ⟨g, i, none⟩ = cs[i]? := cell_of_row w g i cs t (0, 0) h
theorem Blk.frozen (h : Blk w g t cs) (i : Nat) : w.frozen? ⟨g, i, none⟩ = false := by
  unfold Blk at h
  simp [World.frozen?, h]
theorem Blk.new (w : World) (t : TypeId) (cs : Array Value) : Blk (w.alloc (.cells cs t)) w.heap.size t cs := heap_alloc_new w _
theorem Blk.set_ (h : Blk w g t cs) (i : Nat) (u : Value) : Blk (w.setCell ⟨g, i, none⟩ u) g t (cs.setIfInBounds i u) := by
  unfold Blk at h ⊢
  simp [World.setCell, Array.getElem?_modify, h]
theorem Blk.agree (h : Blk w g t cs) {F : Nat → Prop} (ha : Agree F w w') (hF : F g) : Blk w' g t cs := (ha g hF).trans h
theorem Blk.ext (h : Blk w g t cs) (he : Ext w w') : Blk w' g t cs := (he.heap h.lt).trans h
theorem Blk.alloc (h : Blk w g t cs) (o : Obj) : Blk (w.alloc o) g t cs := (Below.heap_alloc w o g h.lt).trans h
theorem Blk.far (h : Blk w g t cs) {p : Addr} (hp : g ≠ p.block) (u : Value) : Blk (w.setCell p u) g t cs := (Below.heap_setCell w p u g hp).trans h
theorem Blk.c6 {v0 v1 v2 v3 v4 v5 : Value} (h : Blk w g t #[v0, v1, v2, v3, v4, v5]) : w.cell? ⟨g, 0, none⟩ = some v0 ∧ w.cell? ⟨g, 1, none⟩ = some v1 ∧ w.cell? ⟨g, 2, none⟩ = some v2 ∧ w.cell? ⟨g, 3, none⟩ = some v3 ∧ w.cell? ⟨g, 4, none⟩ = some v4 ∧ w.cell? ⟨g, 5, none⟩ = some v5 :=
  ⟨h.cell 0, h.cell 1, h.cell 2, h.cell 3, h.cell 4, h.cell 5⟩
end

/-- Three new blocks. -/
theorem three_blocks (w : World) (t0 t1 t2 : TypeId) (c0 c1 c2 : Array Value) : ∀ W, ((w.alloc (.cells c0 t0)).alloc (.cells c1 t1)).alloc (.cells c2 t2) = W →
    Ext w W ∧ W.heap.size = w.heap.size + 3 ∧ Blk W w.heap.size t0 c0 ∧ Blk W (w.heap.size + 1) t1 c1 ∧ Blk W (w.heap.size + 1 + 1) t2 c2 := by
  rintro W rfl
  refine ⟨(((Ext.refl w).alloc _ _).alloc _ _).alloc _ _, by simp, ((Blk.new w t0 c0).alloc _).alloc _, ?_, ?_⟩
  · have h := (Blk.new (w.alloc (.cells c0 t0)) t1 c1).alloc (.cells c2 t2)
    rw [World.size_alloc] at h; exact h
  · have h := Blk.new ((w.alloc (.cells c0 t0)).alloc (.cells c1 t1)) t2 c2
    rw [World.size_alloc, World.size_alloc] at h; exact h
/-- Four. -/
theorem four_blocks (w : World) (t0 t1 t2 t3 : TypeId) (c0 c1 c2 c3 : Array Value) : ∀ W, (((w.alloc (.cells c0 t0)).alloc (.cells c1 t1)).alloc (.cells c2 t2)).alloc (.cells c3 t3) = W →
    Ext w W ∧ W.heap.size = w.heap.size + 4 ∧ Blk W w.heap.size t0 c0 ∧ Blk W (w.heap.size + 1) t1 c1 ∧ Blk W (w.heap.size + 1 + 1) t2 c2 ∧ Blk W (w.heap.size + 1 + 1 + 1) t3 c3 := by
  rintro W rfl
  obtain ⟨h1, h2, h3, h4, h5⟩ := three_blocks w t0 t1 t2 c0 c1 c2 _ rfl
  refine ⟨h1.alloc _ _, by simp, h3.alloc _, h4.alloc _, h5.alloc _, ?_⟩
  have h := Blk.new (((w.alloc (.cells c0 t0)).alloc (.cells c1 t1)).alloc (.cells c2 t2)) t3 c3
  rw [h2] at h; exact h
theorem Filling.of {w : World} {B t : Nat} {cs : Array Value} {size n : Nat} (h : Blk w B t cs) (hs : cs.size = n * size) : Filling w B t size n := ⟨cs, h, hs⟩
theorem Filling.made {w : World} {t : TypeId} (cs : Array Value) {size n : Nat} (h : cs.size = n * size) : Filling (w.alloc (.cells cs t)) w.heap.size t size n := ⟨cs, Blk.new w t cs, h⟩

/-- The six stores of a value into block b from cell o on. -/
def putV (w : World) (b o : Nat) (d : Val) (sl so : Sl) : World :=
  (((((w.setCell ⟨b, o, none⟩ (.int .i64 d.kind)).setCell ⟨b, o + 1, none⟩ (.bool d.b)).setCell ⟨b, o + 2, none⟩ (.int .i64 d.i)).setCell ⟨b, o + 3, none⟩ (.string d.t)).setCell ⟨b, o + 4, none⟩ (.slice sl.a d.l.length sl.c)).setCell ⟨b, o + 5, none⟩ (.slice so.a d.ok.length so.c)
theorem putV_agree (w : World) (b o : Nat) (d : Val) (sl so : Sl) {F : Nat → Prop} (hF : ¬ F b) : Agree F w (putV w b o d sl so) :=
  ((((((Agree.refl w).trans (Agree.setCell _ _ _ hF)).trans (Agree.setCell _ _ _ hF)).trans (Agree.setCell _ _ _ hF)).trans (Agree.setCell _ _ _ hF)).trans (Agree.setCell _ _ _ hF)).trans (Agree.setCell _ _ _ hF)
theorem putV_size (w : World) (b o : Nat) (d : Val) (sl so : Sl) : (putV w b o d sl so).heap.size = w.heap.size := by simp [putV]
theorem Ext.putV {a w : World} (h : Ext a w) {b : Nat} (hb : a.heap.size ≤ b) (o : Nat) (d : Val) (sl so : Sl) : Ext a (putV w b o d sl so) :=
  (((((h.setCell (p := ⟨b, _, none⟩) hb _).setCell (p := ⟨b, _, none⟩) hb _).setCell (p := ⟨b, _, none⟩) hb _).setCell (p := ⟨b, _, none⟩) hb _).setCell (p := ⟨b, _, none⟩) hb _).setCell (p := ⟨b, _, none⟩) hb _
theorem Filling.putV {w : World} {B t size n : Nat} (h : Filling w B t size n) (b o : Nat) (d : Val) (sl so : Sl) : Filling (putV w b o d sl so) B t size n :=
  (((((h.setCell _ _).setCell _ _).setCell _ _).setCell _ _).setCell _ _).setCell _ _
/-- A store into a block, asked for elsewhere. -/
theorem cell_set_other (w : World) (b o o' : Nat) (u : Value) (h : o ≠ o') : (w.setCell ⟨b, o, none⟩ u).cell? ⟨b, o', none⟩ = w.cell? ⟨b, o', none⟩ :=
  World.cell?_setCell_other w _ _ u (fun e => h (congrArg Addr.off e))
theorem putV_other (w : World) (b o : Nat) (d : Val) (sl so : Sl) (o' : Nat) (h : o' < o ∨ o + 6 ≤ o') : (putV w b o d sl so).cell? ⟨b, o', none⟩ = w.cell? ⟨b, o', none⟩ := by
  unfold putV
  rw [cell_set_other _ _ _ _ _ (by omega), cell_set_other _ _ _ _ _ (by omega), cell_set_other _ _ _ _ _ (by omega), cell_set_other _ _ _ _ _ (by omega), cell_set_other _ _ _ _ _ (by omega), cell_set_other _ _ _ _ _ (by omega)]
theorem Filling.here {w : World} {B t size n : Nat} (h : Filling w B t size n) {o : Nat} (ho : o < n * size) (u : Value) : (w.setCell ⟨B, o, none⟩ u).cell? ⟨B, o, none⟩ = some u := by
  obtain ⟨v, hv⟩ := h.cell ho
  exact World.cell?_setCell_same w _ u hv
theorem putV_here {w : World} {B t size n : Nat} (h : Filling w B t size n) {o : Nat} (d : Val) (sl so : Sl) (ho : o + 6 ≤ n * size) : VCells (putV w B o d sl so) B o d sl so := by
  unfold putV
  refine ⟨?_, ?_, ?_, ?_, ?_, ?_⟩
  · rw [cell_set_other _ _ _ _ _ (by omega), cell_set_other _ _ _ _ _ (by omega), cell_set_other _ _ _ _ _ (by omega), cell_set_other _ _ _ _ _ (by omega), cell_set_other _ _ _ _ _ (by omega)]
    exact h.here (by omega) _
  · rw [cell_set_other _ _ _ _ _ (by omega), cell_set_other _ _ _ _ _ (by omega), cell_set_other _ _ _ _ _ (by omega), cell_set_other _ _ _ _ _ (by omega)]
    exact (h.setCell _ _).here (by omega) _
  · rw [cell_set_other _ _ _ _ _ (by omega), cell_set_other _ _ _ _ _ (by omega), cell_set_other _ _ _ _ _ (by omega)]
    exact ((h.setCell _ _).setCell _ _).here (by omega) _
  · rw [cell_set_other _ _ _ _ _ (by omega), cell_set_other _ _ _ _ _ (by omega)]
    exact (((h.setCell _ _).setCell _ _).setCell _ _).here (by omega) _
  · rw [cell_set_other _ _ _ _ _ (by omega)]
    exact ((((h.setCell _ _).setCell _ _).setCell _ _).setCell _ _).here (by omega) _
  · exact (((((h.setCell _ _).setCell _ _).setCell _ _).setCell _ _).setCell _ _).here (by omega) _
theorem VCells.other {w : World} {b o : Nat} {d : Val} {sl so : Sl} (h : VCells w b o d sl so) (o' : Nat) (d' : Val) (sl' so' : Sl) (hd : o + 6 ≤ o' ∨ o' + 6 ≤ o) : VCells (putV w b o' d' sl' so') b o d sl so :=
  ⟨(putV_other _ _ _ _ _ _ _ (by omega)).trans h.c0, (putV_other _ _ _ _ _ _ _ (by omega)).trans h.c1, (putV_other _ _ _ _ _ _ _ (by omega)).trans h.c2, (putV_other _ _ _ _ _ _ _ (by omega)).trans h.c3, (putV_other _ _ _ _ _ _ _ (by omega)).trans h.c4, (putV_other _ _ _ _ _ _ _ (by omega)).trans h.c5⟩

/-- The first k of the values l, copied into block B; what they lead to lies behind B. -/
structure FillV (wr : World) (B t : Nat) (l : List Val) (k : Nat) (f : Nat → Sl × Sl) : Prop where
  row : Filling wr B t 6 l.length
  cells : ∀ j d, j < k → l[j]? = some d → VCells wr B (j * 6) d (f j).1 (f j).2
  reads : ∀ j d, j < k → l[j]? = some d → RV wr (In (B + 1) wr.heap.size) d (f j).1 (f j).2
theorem FillV.start {w : World} {B t : Nat} {l : List Val} (h : Filling w B t 6 l.length) (f : Nat → Sl × Sl) : FillV w B t l 0 f := ⟨h, fun _ _ h => absurd h (by omega), fun _ _ h => absurd h (by omega)⟩
/-- One more: the world has grown (W), then the value was stored. -/
theorem FillV.step {wr W : World} {B t k : Nat} {l : List Val} {f : Nat → Sl × Sl} (h : FillV wr B t l k f) (hx : Ext wr W) {d : Val} (hd : l[k]? = some d) {sl so : Sl} (hr : RV W (In wr.heap.size W.heap.size) d sl so) :
    FillV (putV W B (k * 6) d sl so) B t l (k + 1) (fun j => if j = k then (sl, so) else f j) := by
  have hB := h.row.lt
  have hk : k < l.length := (List.getElem?_eq_some_iff.1 hd).1
  have hrow : Filling W B t 6 l.length := h.row.agree (F := Lt wr.heap.size) (hx.agree fun _ h => h) hB
  refine ⟨hrow.putV _ _ _ _ _, fun j d' hj hd' => ?_, fun j d' hj hd' => ?_⟩
  · by_cases hjk : j = k
    · subst hjk
      obtain rfl : d = d' := by rw [hd] at hd'; injection hd'
      simp only [if_pos]
      exact putV_here hrow _ _ _ (by omega)
    · simp only [if_neg hjk]
      exact ((h.cells j d' (by omega) hd').agree (F := Lt wr.heap.size) (hx.agree fun _ h => h) hB).other _ _ _ _ (by omega)
  · have hag : Agree (In (B + 1) W.heap.size) W (putV W B (k * 6) d sl so) := putV_agree _ _ _ _ _ _ (by omega)
    rw [putV_size]
    by_cases hjk : j = k
    · subst hjk
      obtain rfl : d = d' := by rw [hd] at hd'; injection hd'
      simp only [if_pos]
      exact (hr.mono (fun i hi => ⟨by omega, hi.2⟩)).agree hag
    · simp only [if_neg hjk]
      exact (((h.reads j d' (by omega) hd').ext hx (fun b hb => hb.2)).mono (fun i hi => ⟨hi.1, by have := hx.size; omega⟩)).agree hag

theorem FillV.done {w : World} {B t : Nat} {l : List Val} {f : Nat → Sl × Sl} (h : FillV w B t l l.length f) {n : Nat} (hn : n ≤ B) : RL w (In n w.heap.size) B 0 l f :=
  ⟨fun j d hd => by rw [Nat.zero_add]; exact h.cells j d (List.getElem?_eq_some_iff.1 hd).1 hd, fun j d hd => (h.reads j d (List.getElem?_eq_some_iff.1 hd).1 hd).mono fun i hi => ⟨by omega, hi.2⟩⟩

/-- The cells of a value that stands behind a key. -/
theorem VCells.m {w : World} {b o : Nat} {d : Val} {sl so : Sl} (h : VCells w b (o + 1) d sl so) : w.cell? ⟨b, o + 1, none⟩ = some (.int .i64 d.kind) ∧ w.cell? ⟨b, o + 2, none⟩ = some (.bool d.b) ∧ w.cell? ⟨b, o + 3, none⟩ = some (.int .i64 d.i) ∧ w.cell? ⟨b, o + 4, none⟩ = some (.string d.t) ∧
    w.cell? ⟨b, o + 5, none⟩ = some (.slice sl.a d.l.length sl.c) ∧ w.cell? ⟨b, o + 6, none⟩ = some (.slice so.a d.ok.length so.c) := ⟨h.c0, h.c1, h.c2, h.c3, h.c4, h.c5⟩
/-- The seven stores of a key and a value. -/
def putM (w : World) (b o : Nat) (k : ByteArray) (d : Val) (sl so : Sl) : World := putV (w.setCell ⟨b, o, none⟩ (.string k)) b (o + 1) d sl so
theorem putM_agree (w : World) (b o : Nat) (k : ByteArray) (d : Val) (sl so : Sl) {F : Nat → Prop} (hF : ¬ F b) : Agree F w (putM w b o k d sl so) := (Agree.setCell _ _ _ hF).trans (putV_agree _ _ _ _ _ _ hF)
theorem putM_size (w : World) (b o : Nat) (k : ByteArray) (d : Val) (sl so : Sl) : (putM w b o k d sl so).heap.size = w.heap.size := by simp [putM, putV_size]
theorem Ext.putM {a w : World} (h : Ext a w) {b : Nat} (hb : a.heap.size ≤ b) (o : Nat) (k : ByteArray) (d : Val) (sl so : Sl) : Ext a (putM w b o k d sl so) := (h.setCell (p := ⟨b, _, none⟩) hb _).putV hb _ _ _ _
theorem Filling.putM {w : World} {B t size n : Nat} (h : Filling w B t size n) (b o : Nat) (k : ByteArray) (d : Val) (sl so : Sl) : Filling (putM w b o k d sl so) B t size n := (h.setCell _ _).putV _ _ _ _ _
theorem putM_other (w : World) (b o : Nat) (k : ByteArray) (d : Val) (sl so : Sl) (o' : Nat) (h : o' < o ∨ o + 7 ≤ o') : (putM w b o k d sl so).cell? ⟨b, o', none⟩ = w.cell? ⟨b, o', none⟩ := by
  unfold putM
  rw [putV_other _ _ _ _ _ _ _ (by omega), cell_set_other _ _ _ _ _ (by omega)]
theorem putM_here {w : World} {B t size n : Nat} (h : Filling w B t size n) {o : Nat} (k : ByteArray) (d : Val) (sl so : Sl) (ho : o + 7 ≤ n * size) : (putM w B o k d sl so).cell? ⟨B, o, none⟩ = some (.string k) ∧ VCells (putM w B o k d sl so) B (o + 1) d sl so := by
  refine ⟨?_, putV_here (h.setCell _ _) _ _ _ (by omega)⟩
  unfold putM
  rw [putV_other _ _ _ _ _ _ _ (by omega)]
  exact h.here (by omega) _
theorem VCells.otherM {w : World} {b o : Nat} {d : Val} {sl so : Sl} (h : VCells w b o d sl so) (o' : Nat) (k : ByteArray) (d' : Val) (sl' so' : Sl) (hd : o + 6 ≤ o' ∨ o' + 7 ≤ o) : VCells (putM w b o' k d' sl' so') b o d sl so :=
  ⟨(putM_other _ _ _ _ _ _ _ _ (by omega)).trans h.c0, (putM_other _ _ _ _ _ _ _ _ (by omega)).trans h.c1, (putM_other _ _ _ _ _ _ _ _ (by omega)).trans h.c2, (putM_other _ _ _ _ _ _ _ _ (by omega)).trans h.c3, (putM_other _ _ _ _ _ _ _ _ (by omega)).trans h.c4, (putM_other _ _ _ _ _ _ _ _ (by omega)).trans h.c5⟩

/-- The first k of the members (keys and values), copied into block B. -/
structure FillM (wr : World) (B t : Nat) (ok : List ByteArray) (ov : List Val) (k : Nat) (f : Nat → Sl × Sl) : Prop where
  row : Filling wr B t 7 ok.length
  keys : ∀ j x, j < k → ok[j]? = some x → wr.cell? ⟨B, j * 7, none⟩ = some (.string x)
  cells : ∀ j d, j < k → ov[j]? = some d → VCells wr B (j * 7 + 1) d (f j).1 (f j).2
  reads : ∀ j d, j < k → ov[j]? = some d → RV wr (In (B + 1) wr.heap.size) d (f j).1 (f j).2
theorem FillM.start {w : World} {B t : Nat} {ok : List ByteArray} {ov : List Val} (h : Filling w B t 7 ok.length) (f : Nat → Sl × Sl) : FillM w B t ok ov 0 f := ⟨h, fun _ _ h => absurd h (by omega), fun _ _ h => absurd h (by omega), fun _ _ h => absurd h (by omega)⟩
theorem FillM.step {wr W : World} {B t k : Nat} {ok : List ByteArray} {ov : List Val} {f : Nat → Sl × Sl} (h : FillM wr B t ok ov k f) (hx : Ext wr W) {x : ByteArray} (hk' : ok[k]? = some x) {d : Val} (hd : ov[k]? = some d) {sl so : Sl} (hr : RV W (In wr.heap.size W.heap.size) d sl so) :
    FillM (putM W B (k * 7) x d sl so) B t ok ov (k + 1) (fun j => if j = k then (sl, so) else f j) := by
  have hB := h.row.lt
  have hk : k < ok.length := (List.getElem?_eq_some_iff.1 hk').1
  have hrow : Filling W B t 7 ok.length := h.row.agree (F := Lt wr.heap.size) (hx.agree fun _ h => h) hB
  refine ⟨hrow.putM _ _ _ _ _ _, fun j x' hj hx' => ?_, fun j d' hj hd' => ?_, fun j d' hj hd' => ?_⟩
  · by_cases hjk : j = k
    · subst hjk
      obtain rfl : x = x' := by rw [hk'] at hx'; injection hx'
      exact (putM_here hrow _ _ _ _ (by omega)).1
    · rw [putM_other _ _ _ _ _ _ _ _ (by omega)]
      exact (hx.cell hB).trans (h.keys j x' (by omega) hx')
  · by_cases hjk : j = k
    · subst hjk
      obtain rfl : d = d' := by rw [hd] at hd'; injection hd'
      simp only [if_pos]
      exact (putM_here hrow _ _ _ _ (by omega)).2
    · simp only [if_neg hjk]
      exact ((h.cells j d' (by omega) hd').agree (F := Lt wr.heap.size) (hx.agree fun _ h => h) hB).otherM _ _ _ _ _ (by omega)
  · have hag : Agree (In (B + 1) W.heap.size) W (putM W B (k * 7) x d sl so) := putM_agree _ _ _ _ _ _ _ (by omega)
    rw [putM_size]
    by_cases hjk : j = k
    · subst hjk
      obtain rfl : d = d' := by rw [hd] at hd'; injection hd'
      simp only [if_pos]
      exact (hr.mono (fun i hi => ⟨by omega, hi.2⟩)).agree hag
    · simp only [if_neg hjk]
      exact (((h.reads j d' (by omega) hd').ext hx (fun b hb => hb.2)).mono (fun i hi => ⟨hi.1, by have := hx.size; omega⟩)).agree hag
theorem FillM.done {w : World} {B t : Nat} {ok : List ByteArray} {ov : List Val} {f : Nat → Sl × Sl} (h : FillM w B t ok ov ok.length f) (hov : ov.length = ok.length) (hk : ∀ (j : Nat) (x : ByteArray), ok[j]? = some x → x.size ≤ maxLen) {n : Nat} (hn : n ≤ B) : RO w (In n w.heap.size) B 0 ok ov f :=
  ⟨fun j x hx => ⟨by rw [Nat.zero_add]; exact h.keys j x (List.getElem?_eq_some_iff.1 hx).1 hx, hk j x hx⟩,
    fun j d hd => by rw [Nat.zero_add]; exact h.cells j d (by have := (List.getElem?_eq_some_iff.1 hd).1; omega) hd, fun j d hd => (h.reads j d (by have := (List.getElem?_eq_some_iff.1 hd).1; omega) hd).mono fun i hi => ⟨by omega, hi.2⟩⟩
theorem RL.nil (w : World) (F : Nat → Prop) (b o : Nat) (f : Nat → Sl × Sl) : RL w F b o [] f := ⟨fun _ _ h => by simp at h, fun _ _ h => by simp at h⟩
theorem RO.nil (w : World) (F : Nat → Prop) (b o : Nat) (f : Nat → Sl × Sl) : RO w F b o [] [] f := ⟨fun _ _ h => by simp at h, fun _ _ h => by simp at h, fun _ _ h => by simp at h⟩
theorem six_of {cs : Array Value} (h : cs.size = 6) : ∃ a0 a1 a2 a3 a4 a5, cs = #[a0, a1, a2, a3, a4, a5] := by
  obtain ⟨l⟩ := cs
  match l, h with
  | [a0, a1, a2, a3, a4, a5], _ => exact ⟨_, _, _, _, _, _, rfl⟩
theorem RL.agree {w w' : World} {F : Nat → Prop} {b o : Nat} {l : List Val} {f : Nat → Sl × Sl} (h : RL w F b o l f) (ha : Agree F w w') (hb : 0 < l.length → F b) : RL w' F b o l f :=
  ⟨fun j d hd => (h.cells j d hd).agree ha (hb (lt_length hd)), fun j d hd => (h.reads j d hd).agree ha⟩
theorem RL.mono {w : World} {F G : Nat → Prop} {b o : Nat} {l : List Val} {f : Nat → Sl × Sl} (h : RL w F b o l f) (hG : ∀ i, F i → G i) : RL w G b o l f := ⟨h.cells, fun j d hd => (h.reads j d hd).mono hG⟩
theorem RO.agree {w w' : World} {F : Nat → Prop} {b o : Nat} {ok : List ByteArray} {ov : List Val} {f : Nat → Sl × Sl} (h : RO w F b o ok ov f) (ha : Agree F w w') (hov : ov.length = ok.length) (hb : 0 < ok.length → F b) : RO w' F b o ok ov f :=
  ⟨fun j k hk => ⟨(ha.cell (hb (lt_length hk))).trans (h.keys j k hk).1, (h.keys j k hk).2⟩, fun j d hd => (h.cells j d hd).agree ha (hb (hov ▸ lt_length hd)), fun j d hd => (h.reads j d hd).agree ha⟩
theorem RO.mono {w : World} {F G : Nat → Prop} {b o : Nat} {ok : List ByteArray} {ov : List Val} {f : Nat → Sl × Sl} (h : RO w F b o ok ov f) (hG : ∀ i, F i → G i) : RO w G b o ok ov f := ⟨h.keys, h.cells, fun j d hd => (h.reads j d hd).mono hG⟩
theorem RV.of {w : World} {F : Nat → Prop} {kind : Int} {b : Bool} {i : Int} {t : ByteArray} {l : List Val} {ok : List ByteArray} {ov : List Val} {sl so : Sl} {bl fl bo fo : Nat} {cl co : Nat → Sl × Sl}
    (hl : SlAt F sl l.length bl fl) (ho : SlAt F so ok.length bo fo) (hov : ov.length = ok.length) (rl : RL w F bl fl l cl) (ro : RO w F bo fo ok ov co)
    (bk : (Lit.int .i64 kind).wf = true) (bi : (Lit.int .i64 i).wf = true) (bt : t.size ≤ maxLen) (nl : l.length * 88 ≤ 140737488355328) (no : ok.length * 104 ≤ 140737488355328) : RV w F (.mk kind b i t l ok ov) sl so :=
  .mk bl fl bo fo cl co hl ho hov rl.cells rl.reads ro.keys ro.cells ro.reads bk bi bt nl no

/-- make at elements of whatever size. -/
theorem run_make_rowN {P : Program} (t e : TypeId) (i : TypeInfo) (z : Value) (ht : P.underlying t = some (.slice e)) (hi : P.info? e = some i) (hz : i.zero = some z)
    (kl kc : IntKind) (n c : Nat) (hnc : n ≤ c) (hbytes : i.bytes * c ≤ 281474976710656) (h63 : c ≤ 9223372036854775807) (w : World) :
    (Instr.makeSlice t (.int kl (n : Int)) (.int kc (c : Int))).run P w = .ok (.slice (some ⟨w.heap.size, 0, none⟩) n c) (w.alloc (.cells (madeCells z.cells (c * i.size)) e)) := by
  have hb : (i.bytes : Int) * (c : Int) ≤ 281474976710656 := by
    have h : ((i.bytes * c : Nat) : Int) ≤ 281474976710656 := by omega
    rwa [Int.natCast_mul] at h
  have hr := run_make (P := P) w t e i z ht hi hz kl kc n c (by omega) (by omega) hb (by omega)
  simp only [Int.toNat_natCast] at hr
  exact hr
end Go.Proofs.Ytpapoalgocmlaaa
