/- What the theorem needs of the texts Held2, Sbs, OvMem, OvStep, OvGet, MeetO, OvStepW, OvPut, OvLay, FitI, FitL, KeysMay, OddV, MayV: no condition of its own. -/
import Derived.Maps.OwnSet
import Derived.Laws.IdiomStrings
import Derived.WalkArith
import Derived.StringKeys
import Derived.Deep.DeepCutAuto
import Derived.Deep.CutBlock
import Derived.Shelf.SlIter.Nil
import Derived.Shelf.SortM.Plain
import Derived.Shelf.SortM.SortNone
import Derived.Ground.GgzProg
import Derived.Ground.SlgmProg
import Derived.Ground.NamesProg
import Derived.Shelf.Strings.Prefix
import Derived.Shelf.Strconv.Itoa4
import Derived.Shelf.Unicode.ValidAny
import Derived.Shelf.Small.Wraps
import Derived.Test.YtechahocffcbpaaGreatDoorPud
import Derived.Test.YtechahocffcbpaaGreatDoorPua
import Derived.Test.YtechahocffcbpaaGreatDoorPub
import Derived.Test.YtechahocffcbpaaGreatDoorPuc
set_option maxRecDepth 100000
set_option maxHeartbeats 4000000
namespace Go.Proofs.YtechahocffcbpaaGreatDoor
section
variable {P : Program} {ops : Array Oper} {Q : Exit → Act → World → Prop} {md : Region.Mode} {S : World → Prop}
theorem held_two {i j : Nat} {oi oj : Oper} {fuel : Nat} {listed : Array Bool} {a : Act} {w : World} (hr : Region.ready md ops listed = [i, j]) (hi : ops[i]? = some oi) (hj : ops[j]? = some oj) (hw : Region.wanted oi (yielded ops a.tmps) = true) (hv : Region.wanted oj (yielded ops a.tmps) = true)
    (h : ∀ K' : Act → World → Prop, Shut (∀ a w, S w → (S w → wpAnyH P md ops Q S fuel (listed.setIfInBounds i true) a w) → K' a w) → Oper.wp P oi a w K' Q)
    (h' : ∀ K' : Act → World → Prop, Shut (∀ a w, S w → (S w → wpAnyH P md ops Q S fuel (listed.setIfInBounds j true) a w) → K' a w) → Oper.wp P oj a w K' Q) : wpAnyH P md ops Q S (fuel + 1) listed a w :=
  wpAnyH_ready hr (by simp) (AllReadyH.cons hi (fun K' hK => by rw [if_pos hw]; exact h K' hK) (AllReadyH.cons hj (fun K' hK => by rw [if_pos hv]; exact h' K' hK) AllReadyH.nil))
end
end Go.Proofs.YtechahocffcbpaaGreatDoor
namespace Go.Proofs.YtechahocffcbpaaGreatDoor
open Go.RowKit Go.Maps
set_option linter.unusedVariables false
set_option linter.unusedSimpArgs false
structure Sb (H : Nat → Prop) (w w' : World) : Prop where
  os : w'.os = w.os
  tape : w'.tape = w.tape
  output : w'.output = w.output
  size : w.heap.size ≤ w'.heap.size
  block : ∀ b, b < w.heap.size → ¬ H b → w'.heap[b]? = w.heap[b]?
theorem St.sb {H : Nat → Prop} {w w' : World} (h : St H w w') : Sb H w w' := ⟨h.os, h.tape, h.output, h.size, h.block⟩
theorem Ext.sb {w w' : World} (h : Ext w w') (H : Nat → Prop) : Sb H w w' := (h.st H).sb
theorem Sb.refl (H : Nat → Prop) (w : World) : Sb H w w := (Ext.refl w).sb H
theorem Sb.trans {H : Nat → Prop} {a b c : World} (h : Sb H a b) (k : Sb H b c) : Sb H a c :=
  ⟨k.os.trans h.os, k.tape.trans h.tape, k.output.trans h.output, Nat.le_trans h.size k.size, fun i hi hn => (k.block i (Nat.lt_of_lt_of_le hi h.size) hn).trans (h.block i hi hn)⟩
theorem Sb.comp {H G : Nat → Prop} {a b c : World} (h : Sb H a b) (k : Sb G b c) (hG : ∀ i, i < a.heap.size → G i → H i) : Sb H a c :=
  ⟨k.os.trans h.os, k.tape.trans h.tape, k.output.trans h.output, Nat.le_trans h.size k.size, fun i hi hn => (k.block i (Nat.lt_of_lt_of_le hi h.size) fun hg => hn (hG i hi hg)).trans (h.block i hi hn)⟩
theorem Sb.mono {H G : Nat → Prop} {a b : World} (h : Sb H a b) (hG : ∀ i, i < a.heap.size → H i → G i) : Sb G a b :=
  ⟨h.os, h.tape, h.output, h.size, fun i hi hn => h.block i hi fun hh => hn (hG i hi hh)⟩
theorem Sb.of_below {n : Nat} {w w' : World} (h : Below n w w') : Sb (fun b => n ≤ b) w w' := ⟨h.os, h.tape, h.output, h.size, fun b _ hn => h.block b (by omega)⟩
theorem Sb.new {H : Nat → Prop} {w w' : World} (h : Below w.heap.size w w') : Sb H w w' := (Sb.of_below h).mono fun i hi hh => by omega
theorem Sb.below {H : Nat → Prop} {w w' : World} (h : Sb H w w') (hH : ∀ b, b < w.heap.size → ¬ H b) : Below w.heap.size w w' :=
  ⟨h.os, h.tape, h.output, h.size, fun b hb => h.block b hb (hH b hb)⟩
theorem Sb.step {H : Nat → Prop} {a w w' : World} (h : Below a.heap.size a w) (k : Sb H w w') (hH : ∀ b, H b → a.heap.size ≤ b) : Below a.heap.size a w' :=
  ((Sb.new (H := H) h).trans k).below fun b hb hh => by have := hH b hh; omega
theorem Sb.heap {H : Nat → Prop} {w w' : World} (h : Sb H w w') {b : Nat} (hb : b < w.heap.size) (hn : ¬ H b) : w'.heap[b]? = w.heap[b]? := h.block b hb hn
theorem Sb.cell {H : Nat → Prop} {w w' : World} (h : Sb H w w') {b o : Nat} (hb : b < w.heap.size) (hn : ¬ H b) : w'.cell? ⟨b, o, none⟩ = w.cell? ⟨b, o, none⟩ :=
  World.cell?_of_block (w := w) (a := ⟨b, o, none⟩) (h.block b hb hn)
theorem Sb.blk {H : Nat → Prop} {w w' : World} {g : Nat} {t : TypeId} {cs : Array Value} (h : Sb H w w') (hb : Blk w g t cs) (hn : ¬ H g) : Blk w' g t cs := (h.block g hb.lt hn).trans hb
theorem Sb.agree {H : Nat → Prop} {w w' : World} (h : Sb H w w') : Agree (NH H w) w w' := fun b hb => h.block b hb.1 hb.2
theorem Sb.ext {H : Nat → Prop} {a b c : World} (h : Sb H a b) (k : Ext b c) : Sb H a c := h.trans (k.sb H)
theorem Sb.drew {H : Nat → Prop} {a w : World} (h : Sb H a w) : Sb H a w.drew := h.ext ((Ext.refl w).drew)
theorem Sb.set {H : Nat → Prop} {a w : World} (h : Sb H a w) {p : Addr} (hp : a.heap.size ≤ p.block ∨ H p.block) (u : Value) : Sb H a (w.setCell p u) :=
  ⟨h.os, h.tape, h.output, by simpa [World.setCell] using h.size, fun i hi hn => (Below.heap_setCell w p u i (by
    rintro rfl
    rcases hp with hp | hp
    · omega
    · exact hn hp)).trans (h.block i hi hn)⟩
theorem Sb.grown {w w' : World} {b : Nat} (h : w.grownBy w' (some b)) : Sb (fun i => i = b) w w' :=
  ⟨h.os, h.tape, h.output, h.size, fun i hi hn => h.block i hi (by intro e; injection e with e; exact hn e)⟩
theorem Sb.made {H : Nat → Prop} {w w' : World} (h : w.grownBy w' none) : Sb H w w' := ⟨h.os, h.tape, h.output, h.size, fun i hi hn => h.block i hi (by simp)⟩
theorem ownsMap_heap {H : Type} {P : Program} {k : TypeId} {R : Value → Option (DataW H × List MemPlace)} {w w' : World} {b n : Nat} {D : DataW H} (h : w.ownsMap P k R b n D) (hb : w'.heap[b]? = w.heap[b]?) : w'.ownsMap P k R b n D := by
  obtain ⟨es, clock, h1, F, h2, h3⟩ := h
  exact ⟨es, clock, hb.trans h1, F, h2, h3⟩
structure OD where
  T : RT
  mb : Option Nat
  s : Sl
  us : List UD
  Hs : List (AL SV)
  C : AL SV
def OvB (O : Nat) (d : OD) : Nat → Prop := fun b => b = O ∨ d.mb = some b ∨ d.s.row = some b
def OvF (H : Nat → Prop) (w : World) (O : Nat) (d : OD) : Nat → Prop := fun b => b < w.heap.size ∧ ¬ OvB O d b ∧ ¬ H b
theorem rv_zeroO (w : World) (F : Nat → Prop) : RV w F zeroV Sl.none Sl.none := RV.flat _ _ _ _ _ _ (by decide) (by decide) (by decide)
def SVok (w : World) (F : Nat → Prop) (s : SV) : Prop := RV w F s.v s.sl s.so ∧ (s.has = false → s.v = zeroV)
theorem SVok.agree {w w' : World} {F : Nat → Prop} {s : SV} (h : SVok w F s) (ha : Agree F w w') : SVok w' F s := ⟨h.1.agree ha, h.2⟩
theorem SVok.mono {w : World} {F G : Nat → Prop} {s : SV} (h : SVok w F s) (hG : ∀ i, F i → G i) : SVok w G s := ⟨h.1.mono hG, h.2⟩
def UndoV (w : World) (F : Nat → Prop) (O : Nat) (u : UD) (v : Value) : Prop :=
  ∃ (bw bd bo bk : Nat) (o : SV), v = .func (.func 62) #[] #[.pointer (some ⟨bw, 0, none⟩), .pointer (some ⟨bd, 0, none⟩), .pointer (some ⟨bo, 0, none⟩), .pointer (some ⟨bk, 0, none⟩)] ∧
    (F bw ∧ F bd ∧ F bo ∧ F bk) ∧ Blk w bw 4 #[.bool u.old.isSome] ∧ Blk w bd 85 o.cells ∧ (∀ x, u.old = some x → x = o) ∧ Blk w bo 43 #[.pointer (some ⟨O, 0, none⟩)] ∧ Blk w bk 9 #[.string u.k]
theorem UndoV.agree {w w' : World} {F : Nat → Prop} {O : Nat} {u : UD} {v : Value} (h : UndoV w F O u v) (ha : Agree F w w') : UndoV w' F O u v := by
  obtain ⟨bw, bd, bo, bk, o, h1, ⟨f1, f2, f3, f4⟩, h2, h3, h4, h5, h6⟩ := h
  exact ⟨bw, bd, bo, bk, o, h1, ⟨f1, f2, f3, f4⟩, h2.agree ha f1, h3.agree ha f2, h4, h5.agree ha f3, h6.agree ha f4⟩
theorem UndoV.mono {w : World} {F G : Nat → Prop} {O : Nat} {u : UD} {v : Value} (h : UndoV w F O u v) (hG : ∀ i, F i → G i) : UndoV w G O u v := by
  obtain ⟨bw, bd, bo, bk, o, h1, ⟨f1, f2, f3, f4⟩, r⟩ := h
  exact ⟨bw, bd, bo, bk, o, h1, ⟨hG _ f1, hG _ f2, hG _ f3, hG _ f4⟩, r⟩
def OvMap (w : World) (mb : Option Nat) (C : AL SV) : Prop := match mb with
  | none => C = []
  | some b => w.ownsMap Tryz.prog 9 heldR b C.length (mapA SV.val C)
theorem OvMap.heap {w w' : World} {mb : Option Nat} {C : AL SV} (h : OvMap w mb C) (hb : ∀ b, mb = some b → w'.heap[b]? = w.heap[b]?) : OvMap w' mb C := by
  cases mb with
  | none => exact h
  | some b => exact ownsMap_heap h (hb b rfl)
theorem OvMap.lt {w : World} {mb : Option Nat} {C : AL SV} (h : OvMap w mb C) {b : Nat} (hb : mb = some b) : b < w.heap.size := by
  subst hb; exact World.ownsMap.lt h
theorem ownsMap_exact {w : World} {b n : Nat} {C : AL SV} (h : w.ownsMap Tryz.prog 9 heldR b n (mapA SV.val C)) : w.ownsMap Tryz.prog 9 heldR b C.length (mapA SV.val C) := by
  obtain ⟨es, clock, h1, F, h2, h3⟩ := h
  refine ⟨es, clock, h1, F, ?_, h3⟩
  have := congrArg Maps.size h3
  rw [size_mapA] at this
  simp [Maps.size, length_sorted] at this
  omega
def OvRow (w : World) (F : Nat → Prop) (O : Nat) (s : Sl) (us : List UD) : Prop :=
  ∃ xs : List Value, xs.length = us.length ∧ w.ownsRow 0 1 1 (.slice s.a us.length s.c) us.length xs ∧ ∀ (i : Nat) (u : UD) (v : Value), us[i]? = some u → xs[i]? = some v → UndoV w F O u v
structure OvAt (H : Nat → Prop) (w : World) (O : Nat) (d : OD) : Prop where
  blk : Blk w O 29 #[rootV d.T, .map d.mb, .slice d.s.a d.us.length d.s.c]
  map : OvMap w d.mb d.C
  row : OvRow w (OvF H w O d) O d.s d.us
  vals : ∀ p ∈ d.C, p.1.size ≤ maxLen ∧ SVok w (OvF H w O d) p.2
  olds : ∀ u ∈ d.us, u.k.size ≤ maxLen ∧ ∀ o, u.old = some o → SVok w (OvF H w O d) o
  hist : Chain d.us d.Hs
  h0 : d.Hs[0]? = some []
  last : d.Hs[d.us.length]? = some d.C
  sorted : SortedA d.C
  tree : IsT w (OvF H w O d) d.T
  ok : OkR d.T
  ne : d.mb ≠ some O ∧ d.s.row ≠ some O ∧ ∀ b, d.mb = some b → d.s.row ≠ some b
  out : ∀ b, OvB O d b → ¬ H b
  some_ : d.us ≠ [] → ∃ b, d.mb = some b
theorem Chain.short {us : List UD} {Hs : List (AL SV)} (h : Chain us Hs) (h0 : Hs[0]? = some []) : ∀ (i : Nat) (C : AL SV), Hs[i]? = some C → C.length ≤ i
  | 0, C, hC => by rw [h0] at hC; injection hC with hC; subst hC; exact Nat.le_refl _
  | i + 1, C, hC => by
    have hi : i < us.length := by have := (List.getElem?_eq_some_iff.1 hC).1; have := h.len; omega
    obtain ⟨C', s, h1, h2, h3, h4⟩ := h.step i _ (List.getElem?_eq_getElem hi)
    rw [h4] at hC
    injection hC with hC
    subst hC
    have := h.short h0 i C' h1
    have := putA_len (C := C') (k := (us[i]'hi).k) (v := s)
    omega
section
variable {H : Nat → Prop} {w w' : World} {O : Nat} {d : OD}
theorem OvAt.few (h : OvAt H w O d) : d.C.length ≤ d.us.length := h.hist.short h.h0 _ _ h.last
theorem OvAt.row_lt (h : OvAt H w O d) {b : Nat} (hb : d.s.row = some b) : b < w.heap.size := by
  obtain ⟨xs, -, h2, -⟩ := h.row
  exact (own_row h2 hb).2
theorem OvAt.own_lt (h : OvAt H w O d) {b : Nat} (hb : OvB O d b) : b < w.heap.size := by
  rcases hb with rfl | hb | hb
  · exact h.blk.lt
  · exact h.map.lt hb
  · exact h.row_lt hb
theorem OvAt.sb {G : Nat → Prop} (h : OvAt H w O d) (k : Sb G w w') (hG : ∀ b, G b → H b) : OvAt H w' O d := by
  have ha : Agree (OvF H w O d) w w' := fun b hb => k.block b hb.1 fun hh => hb.2.2 (hG b hh)
  have hm : ∀ i, OvF H w O d i → OvF H w' O d i := fun i hi => ⟨Nat.lt_of_lt_of_le hi.1 k.size, hi.2⟩
  have hn : ∀ b, OvB O d b → ¬ G b := fun b hb hg => h.out b hb (hG b hg)
  obtain ⟨xs, r1, r2, r3⟩ := h.row
  exact ⟨k.blk h.blk (hn O (.inl rfl)), h.map.heap fun b hb => k.block b (h.map.lt hb) (hn b (.inr (.inl hb))),
    ⟨xs, r1, own_agree r2 k.agree fun b hb => ⟨h.row_lt hb, hn b (.inr (.inr hb))⟩, fun i u v hu hv => ((r3 i u v hu hv).agree ha).mono hm⟩,
    fun p hp => ⟨(h.vals p hp).1, ((h.vals p hp).2.agree ha).mono hm⟩, fun u hu => ⟨(h.olds u hu).1, fun o ho => (((h.olds u hu).2 o ho).agree ha).mono hm⟩,
    h.hist, h.h0, h.last, h.sorted, (h.tree.agree ha).mono hm, h.ok, h.ne, h.out, h.some_⟩
theorem OvAt.ext (h : OvAt H w O d) (k : Ext w w') : OvAt H w' O d := h.sb (k.sb fun _ => False) fun _ hb => hb.elim
end
theorem strKey : Keyed Tryz.prog 9 := string_keyed Tryz.underlying9
theorem keyA (k : ByteArray) (hk : k.size ≤ maxLen) : keyOf Tryz.prog 9 (.string k) = some (keyS k) := Go.WideMaps.keyOf_string_mk Tryz.underlying9 hk
structure OvTo (H : Nat → Prop) (w : World) (O : Nat) (d d' : OD) (w' : World) : Prop where
  at_ : OvAt H w' O d'
  sb : Sb (OvB O d) w w'
  new : ∀ b, OvB O d' b → OvB O d b ∨ w.heap.size ≤ b
abbrev zeroSV : SV := ⟨false, zeroV, Sl.none, Sl.none⟩
theorem zeroSlot (w : World) : (zeroValue 85).run Tryz.prog w = .ok zeroSV.val w := by kernel_rfl
theorem Tryz.infoFn : (Tryz.prog.info? 1).map (fun i => (i.zero, i.size, i.bytes)) = some (some Value.nilFunc, 1, 8) := by kernel_rfl
def hadA (C : AL SV) (k : ByteArray) : SV := (getA C k).getD zeroSV
theorem look_ov {W : World} {mb : Option Nat} {C : AL SV} (hm : OvMap W mb C) {k : ByteArray} (hk : k.size ≤ maxLen) :
    (Instr.lookup 26 (.map mb) (.string k) true).run Tryz.prog W = .ok (.tuple #[(hadA C k).val, .bool (getA C k).isSome]) W := by
  cases mb with
  | none =>
    have hC : C = [] := hm
    subst hC
    rw [Maps.look_nil true strKey Tryz.underlying26 (zeroSlot W) (keyA k hk)]
    rfl
  | some b =>
    obtain ⟨v, ps, hrun, hv⟩ := World.ownsMap.look_ok hm strKey Tryz.underlying26 (zeroSlot W) (zd := .held zeroSV.val) (zp := []) rfl (keyA k hk)
    rw [at_mapA] at hv
    rw [hrun, has_mapA]
    unfold hadA
    cases hg : getA C k with
    | none => rw [hg] at hv; rw [heldR_inv hv]; rfl
    | some s => rw [hg] at hv; rw [heldR_inv hv]; rfl
theorem oper_putA {o : Oper} {a : Act} {Q : Exit → Act → World → Prop} {K : Act → World → Prop} {w : World} {m x v : Operand} (hop : o.op = Op.mapUpdate 26 m x v)
    {b : Nat} {C : AL SV} {k : ByteArray} {s : SV} (hm : a.eval m = .map (some b)) (hx : a.eval x = .string k) (hv : a.eval v = s.val) (hown : OvMap w (some b) C) (hk : k.size ≤ maxLen) (hC : C.length < maxLen) (hs : SortedA C)
    (hK : ∀ w', OvMap w' (some b) (putA C k s) → Sb (fun c => c = b) w w' → K (a.put o.dst undef) w') : Oper.wp Tryz.prog o a w K Q := by
  obtain ⟨w', hrun, r1, r2⟩ := World.ownsMap.store hown strKey Tryz.underlying26 hC (keyA k hk) (val := s.val) (d := .held s.val) (ps := []) rfl
  unfold Oper.wp
  simp [execOp, hop, hm, hx, hv, hrun, Result.andThen]
  rw [put_mapA SV.val hs] at r1
  exact hK _ (ownsMap_exact r1) (Sb.grown r2.grown)
theorem oper_delA {o : Oper} {a : Act} {Q : Exit → Act → World → Prop} {K : Act → World → Prop} {w : World} {m x : Operand} (hop : o.op = Op.call { callee := Callee.builtin Builtin.delete, args := #[m, x], argTypes := #[26, 9] })
    {b : Nat} {C : AL SV} {k : ByteArray} (hm : a.eval m = .map (some b)) (hx : a.eval x = .string k) (hown : OvMap w (some b) C) (hk : k.size ≤ maxLen)
    (hK : ∀ w', OvMap w' (some b) (delA C k) → Sb (fun c => c = b) w w' → K (a.put o.dst (.tuple #[])) w') : Oper.wp Tryz.prog o a w K Q := by
  obtain ⟨w', hrun, r1, r2⟩ := World.ownsMap.drop hown strKey Tryz.underlying26 (keyA k hk) o.type
  unfold Oper.wp
  simp [execOp, hop, resolve, invoke, builtin, hm, hx, hrun, Result.andThen]
  rw [del_mapA SV.val] at r1
  exact hK _ (ownsMap_exact r1) (Sb.grown r2.grown)
theorem OvMap.ne {w : World} {b g : Nat} {C : AL SV} {t : TypeId} {cs : Array Value} (h : OvMap w (some b) C) (hb : Blk w g t cs) : g ≠ b := by
  rintro rfl
  obtain ⟨es, clock, h1, -⟩ := h
  have h2 : w.heap[g]? = some (.cells cs t (0, 0)) := hb
  rw [h1] at h2
  cases h2
theorem hist_end {us : List UD} {Hs : List (AL SV)} {C : AL SV} (h : Chain us Hs) (hl : Hs[us.length]? = some C) : ∃ Ps, Hs = Ps ++ [C] := by
  have hn := h.len
  rcases List.eq_nil_or_concat Hs with rfl | ⟨Ps, c, rfl⟩
  · simp at hn
  · refine ⟨Ps, ?_⟩
    rw [List.concat_eq_append] at *
    rw [List.length_append, List.length_singleton] at hn
    rw [List.getElem?_append_right (by omega), show us.length - Ps.length = 0 by omega] at hl
    injection hl with hl
    rw [hl]
section
variable {H : Nat → Prop} {w wc : World} {O : Nat} {d : OD}
theorem OvAt.made (h : OvAt H w O d) (hm : d.mb = none) {b : Nat} (hb : w.heap.size ≤ b) (hH : ∀ b, H b → b < w.heap.size) (k : Sb (fun c => c = O) w wc)
    (hblk : Blk wc O 29 #[rootV d.T, .map (some b), .slice d.s.a d.us.length d.s.c]) (hown : wc.ownsMap Tryz.prog 9 heldR b 0 (mapA SV.val [])) : OvAt H wc O { d with mb := some b } := by
  have hC : d.C = [] := by have := h.map; rw [hm] at this; exact this
  have ha : Agree (OvF H w O d) w wc := fun i hi => k.block i hi.1 fun e => hi.2.1 (.inl e)
  have hmm : ∀ i, OvF H w O d i → OvF H wc O { d with mb := some b } i := fun i hi => ⟨Nat.lt_of_lt_of_le hi.1 k.size, fun e => by
    rcases e with e | e | e
    · exact hi.2.1 (.inl e)
    · have e : some b = some i := e
      injection e with e
      have := hi.1; omega
    · exact hi.2.1 (.inr (.inr e)), hi.2.2⟩
  obtain ⟨xs, r1, r2, r3⟩ := h.row
  refine ⟨hblk, ?_, ⟨xs, r1, own_agree r2 k.agree fun i hi => ⟨h.row_lt hi, fun e => h.ne.2.1 (by rw [← e]; exact hi)⟩, fun i u v hu hv => ((r3 i u v hu hv).agree ha).mono hmm⟩,
    fun p hp => ⟨(h.vals p hp).1, ((h.vals p hp).2.agree ha).mono hmm⟩, fun u hu => ⟨(h.olds u hu).1, fun o ho => (((h.olds u hu).2 o ho).agree ha).mono hmm⟩,
    h.hist, h.h0, h.last, h.sorted, (h.tree.agree ha).mono hmm, h.ok, ⟨?_, h.ne.2.1, ?_⟩, ?_, fun _ => ⟨b, rfl⟩⟩
  · show wc.ownsMap _ _ _ _ _ _
    rw [hC]; exact hown
  · intro e
    have e : some b = some O := e
    injection e with e
    have := h.blk.lt; omega
  · intro i hi hr
    have hi : some b = some i := hi
    injection hi with hi
    have := h.row_lt hr; omega
  · rintro i (hi | hi | hi) hh
    · exact h.out i (.inl hi) hh
    · have hi : some b = some i := hi
      injection hi with hi
      have := hH i hh; omega
    · exact h.out i (.inr (.inr hi)) hh
structure StepMid (H : Nat → Prop) (w : World) (O : Nat) (d : OD) (k : ByteArray) (sv : SV) (b : Nat) (wc : World) : Prop where
  at_ : OvAt H wc O { d with mb := some b }
  sb : Sb (OvB O d) w wc
  mb : d.mb = some b ∨ w.heap.size ≤ b
  big : w.heap.size + 3 ≤ wc.heap.size
  bo : Blk wc w.heap.size 43 #[.pointer (some ⟨O, 0, none⟩)]
  bk : Blk wc (w.heap.size + 1) 9 #[.string k]
  bs : Blk wc (w.heap.size + 1 + 1) 85 sv.cells
  ok : SVok wc (OvF H wc O { d with mb := some b }) sv
def StepPost (H : Nat → Prop) (O : Nat) (d : OD) (k : ByteArray) (sv : SV) (w : World) (e : Ending) (w' : World) : Prop :=
  (∃ r, e = .returned r) ∧ ∃ mb s, OvTo H w O d ⟨d.T, mb, s, d.us ++ [⟨k, getA d.C k⟩], d.Hs ++ [putA d.C k sv], putA d.C k sv⟩ w'
abbrev undoC (bw bd bo bk : Nat) : Value := .func (.func 62) #[] #[.pointer (some ⟨bw, 0, none⟩), .pointer (some ⟨bd, 0, none⟩), .pointer (some ⟨bo, 0, none⟩), .pointer (some ⟨bk, 0, none⟩)]
theorem step_end {k : ByteArray} {sv : SV} {b : Nat} {wm W w5 w7 : World} (hM : StepMid H w O d k sv b wc) (hlO : O < w.heap.size) (hrl : ∀ i, d.s.row = some i → i < w.heap.size) (hH : ∀ b, H b → b < w.heap.size) (hk : k.size ≤ maxLen) (hxm : Ext wc wm)
    {bw bd : Nat} (hw1 : wc.heap.size ≤ bw ∧ bw < wm.heap.size) (hd1 : wc.heap.size ≤ bd ∧ bd < wm.heap.size) (hbd : Blk wm bd 85 (hadA d.C k).cells) (hbw : Blk wm bw 4 #[.bool (getA d.C k).isSome]) (hx : Ext wm W)
    {xs : List Value} (hl : xs.length = d.us.length) (hun : ∀ (i : Nat) (u : UD) (v : Value), d.us[i]? = some u → xs[i]? = some v → UndoV wc (OvF H wc O { d with mb := some b }) O u v) {s5 : Sl}
    (hown : w5.ownsRow 0 1 1 (.slice s5.a (d.us.length + 1) s5.c) (d.us.length + 1) (xs ++ [undoC bw bd w.heap.size (w.heap.size + 1)])) (hwr : Wr W w5 d.s.row) (hs : s5.a = d.s.a ∨ s5.a = some ⟨W.heap.size, 0, none⟩ ∧ Wr W w5 none)
    (h7 : OvMap w7 (some b) (putA d.C k sv)) (hsb7 : Sb (fun c => c = b) (w5.setCell ⟨O, 2, none⟩ (.slice s5.a (d.us.length + 1) s5.c)) w7) :
    OvTo H w O d ⟨d.T, some b, s5, d.us ++ [⟨k, getA d.C k⟩], d.Hs ++ [putA d.C k sv], putA d.C k sv⟩ w7 := by
  have hbig := hM.big
  have hcm := hxm.size
  have hmW := hx.size
  have hW5 := hwr.grown.size
  have h57 := hsb7.size
  rw [World.size_setCell] at h57
  have hbl : b < wc.heap.size := hM.at_.map.lt rfl
  have hbO : b ≠ O := fun e => hM.at_.ne.1 (by rw [e])
  have hbr : d.s.row ≠ some b := fun e => hM.at_.ne.2.2 b rfl e
  have hOr : d.s.row ≠ some O := hM.at_.ne.2.1
  have hrow : ∀ i, s5.row = some i → d.s.row = some i ∨ i = W.heap.size := fun i hi => by
    rcases hs with h | ⟨h, -⟩
    · left; rw [Sl.row, ← h]; exact hi
    · right; rw [Sl.row, h] at hi; simpa using hi.symm
  have h5O : s5.row ≠ some O := fun e => by
    rcases hrow O e with h | h
    · exact hOr h
    · omega
  have h5b : s5.row ≠ some b := fun e => by
    rcases hrow b e with h | h
    · exact hbr h
    · omega
  -- what turns between wc and the end
  have hW : Sb (fun _ => False) wc W := (hxm.trans hx).sb _
  have h5 : Sb (fun c => d.s.row = some c) W w5 := ⟨hwr.grown.os, hwr.grown.tape, hwr.grown.output, hwr.grown.size, fun i hi hn => hwr.grown.block i hi fun e => hn e.symm⟩
  have h6 : Sb (fun c => c = O) w5 (w5.setCell ⟨O, 2, none⟩ (.slice s5.a (d.us.length + 1) s5.c)) := (Sb.refl (fun c => c = O) w5).set (p := ⟨O, 2, none⟩) (.inr rfl) _
  have hall : Sb (OvB O { d with mb := some b }) wc w7 :=
    (((hW.mono fun i _ h => h.elim).trans (h5.mono fun i _ h => .inr (.inr h))).trans (h6.mono fun i _ h => .inl h)).trans (hsb7.mono fun i _ h => .inr (.inl (by rw [h])))
  have hkeep : ∀ {g t cs}, Blk wm g t cs → g ≠ O → g ≠ b → d.s.row ≠ some g → Blk w7 g t cs := fun hb h1 h2 h3 =>
    hsb7.blk (h6.blk (h5.blk (hb.ext hx) h3) h1) h2
  have hout : ∀ i, wc.heap.size ≤ i ∨ (i = w.heap.size ∨ i = w.heap.size + 1) → i < wm.heap.size → i ≠ b → OvF H w7 O ⟨d.T, some b, s5, d.us ++ [⟨k, getA d.C k⟩], d.Hs ++ [putA d.C k sv], putA d.C k sv⟩ i := fun i hi hlt hnb =>
    ⟨by omega, fun e => by
      rcases e with e | e | e
      · omega
      · have e : some b = some i := e
        injection e with e
        exact hnb e.symm
      · rcases hrow i e with h | h
        · have := hrl i h; omega
        · omega, fun hh => by have := hH i hh; omega⟩
  have hb0 := hM.bo
  have hb1 := hM.bk
  have nb0 := OvMap.ne hM.at_.map hb0
  have nb1 := OvMap.ne hM.at_.map hb1
  have ha : Agree (OvF H wc O { d with mb := some b }) wc w7 := fun i hi => hall.block i hi.1 hi.2.1
  have hm : ∀ i, OvF H wc O { d with mb := some b } i → OvF H w7 O ⟨d.T, some b, s5, d.us ++ [⟨k, getA d.C k⟩], d.Hs ++ [putA d.C k sv], putA d.C k sv⟩ i := fun i hi =>
    ⟨Nat.lt_of_lt_of_le hi.1 hall.size, fun e => by
      rcases e with e | e | e
      · exact hi.2.1 (.inl e)
      · exact hi.2.1 (.inr (.inl e))
      · rcases hrow i e with h | h
        · exact hi.2.1 (.inr (.inr h))
        · have := hi.1; omega, hi.2.2⟩
  obtain ⟨Ps, hPs⟩ := hist_end hM.at_.hist hM.at_.last
  have hPs : d.Hs = Ps ++ [d.C] := hPs
  have hch : Chain d.us d.Hs := hM.at_.hist
  have hlast : d.Hs[d.us.length]? = some d.C := hM.at_.last
  have hlen := hch.len
  have hsrt : SortedA d.C := hM.at_.sorted
  refine ⟨⟨?_, h7, ⟨xs ++ [undoC bw bd w.heap.size (w.heap.size + 1)], by simp [hl], ?_, ?_⟩, ?_, ?_, ?_, ?_, ?_, putA_sorted hsrt _ _, (hM.at_.tree.agree ha).mono hm, hM.at_.ok, ⟨?_, h5O, ?_⟩, ?_, fun _ => ⟨b, rfl⟩⟩, ?_, ?_⟩
  · have h8 : Blk (w5.setCell ⟨O, 2, none⟩ (.slice s5.a (d.us.length + 1) s5.c)) O 29 #[rootV d.T, .map (some b), .slice s5.a (d.us.length + 1) s5.c] := (h5.blk ((hM.at_.blk.ext hxm).ext hx) hOr).set_ 2 _
    have h9 := hsb7.blk h8 (fun e => hbO e.symm)
    show Blk w7 O _ #[_, _, .slice s5.a (d.us ++ [(⟨k, getA d.C k⟩ : UD)]).length s5.c]
    rw [List.length_append, List.length_singleton]
    exact h9
  · show w7.ownsRow 0 _ 1 (.slice s5.a (d.us ++ [(⟨k, getA d.C k⟩ : UD)]).length s5.c) (d.us ++ [(⟨k, getA d.C k⟩ : UD)]).length _
    rw [List.length_append, List.length_singleton]
    exact own_agree (own_agree hown h6.agree fun i hi => ⟨(own_row hown hi).2, fun e => h5O (by rw [← e]; exact hi)⟩) hsb7.agree fun i hi => ⟨by rw [World.size_setCell]; exact (own_row hown hi).2, fun e => h5b (by rw [← e]; exact hi)⟩
  · intro i u v hu hv
    rcases Nat.lt_or_ge i d.us.length with hi | hi
    · have hu : (d.us ++ [(⟨k, getA d.C k⟩ : UD)])[i]? = some u := hu
      rw [List.getElem?_append_left hi] at hu
      rw [List.getElem?_append_left (by omega)] at hv
      exact ((hun i u v hu hv).agree ha).mono hm
    · have hu : (d.us ++ [(⟨k, getA d.C k⟩ : UD)])[i]? = some u := hu
      rw [List.getElem?_append_right hi] at hu
      rw [List.getElem?_append_right (by omega)] at hv
      have h0 : i - d.us.length = 0 := by have := (List.getElem?_eq_some_iff.1 hu).1; simpa using this
      rw [h0] at hu
      rw [show i - xs.length = 0 by omega] at hv
      have hu : (⟨k, getA d.C k⟩ : UD) = u := by simpa using hu
      have hv : undoC bw bd w.heap.size (w.heap.size + 1) = v := by simpa using hv
      subst hu hv
      refine ⟨bw, bd, w.heap.size, w.heap.size + 1, hadA d.C k, rfl, ⟨hout _ (.inl hw1.1) hw1.2 (by omega), hout _ (.inl hd1.1) hd1.2 (by omega), hout _ (.inr (.inl rfl)) (by omega) nb0, hout _ (.inr (.inr rfl)) (by omega) nb1⟩, ?_, ?_, ?_, ?_, ?_⟩
      · exact hkeep hbw (by omega) (by omega) fun e => by have := hrl _ e; omega
      · exact hkeep hbd (by omega) (by omega) fun e => by have := hrl _ e; omega
      · intro x hx
        have hx : getA d.C k = some x := hx
        unfold hadA; rw [hx]; rfl
      · exact hkeep (hb0.ext hxm) (by omega) nb0 fun e => by have := hrl _ e; omega
      · exact hkeep (hb1.ext hxm) (by omega) nb1 fun e => by have := hrl _ e; omega
  · intro p hp
    rcases mem_putA hp with rfl | hp
    · exact ⟨hk, (hM.ok.agree ha).mono hm⟩
    · exact ⟨(hM.at_.vals p hp).1, ((hM.at_.vals p hp).2.agree ha).mono hm⟩
  · intro u hu
    rcases List.mem_append.1 hu with hu | hu
    · exact ⟨(hM.at_.olds u hu).1, fun o ho => (((hM.at_.olds u hu).2 o ho).agree ha).mono hm⟩
    · rw [List.mem_singleton.1 hu]
      exact ⟨hk, fun o ho => ((((hM.at_.vals (k, o) (getA_some ho)).2).agree ha).mono hm)⟩
  · show Chain (d.us ++ [(⟨k, getA d.C k⟩ : UD)]) (d.Hs ++ [putA d.C k sv])
    rw [hPs] at hch ⊢
    exact hch.snoc hsrt k sv
  · have h0 : d.Hs[0]? = some [] := hM.at_.h0
    show (d.Hs ++ [putA d.C k sv])[0]? = _
    rw [List.getElem?_append_left (by omega)]; exact h0
  · show (d.Hs ++ [putA d.C k sv])[(d.us ++ [(⟨k, getA d.C k⟩ : UD)]).length]? = some (putA d.C k sv)
    rw [List.length_append, List.length_singleton, List.getElem?_append_right (by omega), show d.us.length + 1 - d.Hs.length = 0 by omega]; rfl
  · intro e
    have e : some b = some O := e
    injection e with e
    exact hbO e
  · intro i hi
    have hi : some b = some i := hi
    injection hi with hi
    subst hi
    exact h5b
  · rintro i (hi | hi | hi) hh
    · exact hM.at_.out i (.inl hi) hh
    · exact hM.at_.out i (.inr (.inl hi)) hh
    · rcases hrow i hi with h | h
      · exact hM.at_.out i (.inr (.inr h)) hh
      · have := hH i hh; omega
  · refine hM.sb.comp hall fun i hi h => ?_
    rcases h with h | h | h
    · exact .inl h
    · have h : some b = some i := h
      injection h with h
      subst h
      rcases hM.mb with h | h
      · exact .inr (.inl h)
      · omega
    · exact .inr (.inr h)
  · rintro i (hi | hi | hi)
    · exact .inl (.inl hi)
    · have hi : some b = some i := hi
      injection hi with hi
      subst hi
      rcases hM.mb with h | h
      · exact .inl (.inr (.inl h))
      · exact .inr h
    · rcases hrow i hi with h | h
      · exact .inl (.inr (.inr h))
      · right; omega
end
abbrev od0 (T : RT) : OD := ⟨T, none, Sl.none, [], [[]], []⟩
theorem OvAt.fresh {H : Nat → Prop} {w : World} {F : Nat → Prop} {O : Nat} {T : RT} (hb : Blk w O 29 #[rootV T, .map none, .slice none 0 0]) (hT : IsT w F T) (ok : OkR T) (hF : ∀ b, F b → b < w.heap.size ∧ ¬ H b ∧ b ≠ O) (hO : ¬ H O) : OvAt H w O (od0 T) :=
  ⟨hb, rfl, ⟨[], rfl, World.ownsRow_nil _ _ _ _, fun i u v hu => by simp at hu⟩, fun p hp => (by cases hp), fun u hu => (by cases hu), Chain.nil [], rfl, rfl, List.Pairwise.nil,
    hT.mono fun b hb => ⟨(hF b hb).1, ⟨fun h => by
      rcases h with h | h | h
      · exact (hF b hb).2.2 h
      · cases h
      · (cases h), (hF b hb).2.1⟩⟩, ok, ⟨by simp, by simp [Sl.row], fun b hb => (by cases hb)⟩, fun b hb => by
    rcases hb with rfl | h | h
    · exact hO
    · cases h
    · (cases h), fun h => absurd rfl h⟩
theorem begin_ov {w : World} {F H : Nat → Prop} {T : RT} (hT : IsT w F T) (ok : OkR T) (hF : ∀ b, F b → b < w.heap.size ∧ ¬ H b) (hH : ∀ b, H b → b < w.heap.size) :
    Calls Tryz.prog 15 #[treeV T] w fun e w' => ∃ O, e = .returned (.pointer (some ⟨O, 0, none⟩)) ∧ w.heap.size ≤ O ∧ OvAt H w' O (od0 T) ∧ Ext w w' := by
  obtain ⟨p, hp⟩ := rootV_ptr T
  rw [treeV, hp]
  have HT := Lib.hid hT
  have HF := Lib.hid hF
  have HH := Lib.hid hH
  have HP := Lib.hid hp
  clear hT hF hH hp
  go_enter Tryz.func15, Tryz.ntmps15
  go_wp2_with fail
  generalize hW0 : World.alloc _ _ = W0
  obtain ⟨hx0, hz0, -, hb1⟩ := two_blocks w _ _ _ _ W0 hW0
  refine bodyPost_ret (v := .pointer (some ⟨w.heap.size + 1, 0, none⟩)) (by simp [results, Tryz.results15, go_sem]) rfl ?_
  refine ⟨w.heap.size + 1, rfl, Nat.le_succ _, OvAt.fresh (by rw [HP.out]; exact hb1) (HT.out.agree (hx0.agree fun b hb => (HF.out b hb).1)) ok (fun b hb => ⟨by have := (HF.out b hb).1; omega, (HF.out b hb).2, by have := (HF.out b hb).1; omega⟩) (fun h => by have := HH.out _ h; omega), hx0⟩
theorem mark_ov {H : Nat → Prop} {w : World} {O : Nat} {d : OD} (h : OvAt H w O d) : Calls Tryz.prog 18 #[.pointer (some ⟨O, 0, none⟩)] w fun e w' => e = .returned (.int .i64 (d.us.length : Int)) ∧ Ext w w' := by
  have c2 : w.cell? ⟨O, 2, none⟩ = some (.slice d.s.a d.us.length d.s.c) := h.blk.cell 2
  clear h
  go_enter Tryz.func18, Tryz.ntmps18
  go_wp2_with fail
  go_ret
  exact ⟨rfl, Ext.refl w⟩
abbrev OD.now (d : OD) (k : ByteArray) : Option Val := nowE (entsT d.T) (optA d.C) k
theorem now_none {d : OD} {k : ByteArray} (h : getA d.C k = none) : d.now k = getE (entsT d.T) k := by
  unfold OD.now nowE
  rw [getA_opt, h]; rfl
theorem now_some {d : OD} {k : ByteArray} {s : SV} (h : getA d.C k = some s) : d.now k = s.opt := by
  unfold OD.now nowE
  rw [getA_opt, h]; rfl
theorem opt_val {w : World} {F : Nat → Prop} {s : SV} (h : SVok w F s) : s.opt.getD zeroV = s.v ∧ s.opt.isSome = s.has := by
  unfold SV.opt
  cases hh : s.has with
  | true => simp
  | false => simp [h.2 hh]
theorem get_ov {H : Nat → Prop} {w : World} {O : Nat} {d : OD} (h : OvAt H w O d) (hl : (entsT d.T).length ≤ 1000000) {k : ByteArray} (hk : k.size ≤ maxLen) :
    Calls Tryz.prog 11 #[.pointer (some ⟨O, 0, none⟩), .string k] w (GetPost (d.now k) w) := by
  have lO := h.blk.lt
  have c1 : w.cell? ⟨O, 1, none⟩ = some (.map d.mb) := h.blk.cell 1
  have c0 : w.cell? ⟨O, 0, none⟩ = some (rootV d.T) := h.blk.cell 0
  have hlk : ∀ cs t, (Instr.lookup 26 (.map d.mb) (.string k) true).run Tryz.prog (w.alloc (.cells cs t)) = .ok (.tuple #[(hadA d.C k).val, .bool (getA d.C k).isSome]) (w.alloc (.cells cs t)) := fun cs t =>
    look_ov (h.map.heap fun b hb => Below.heap_alloc _ _ _ (h.map.lt hb)) hk
  cases hg : getA d.C k with
  | none =>
    rw [now_none hg]
    simp only [hg, hadA, Option.getD_none, Option.isSome_none] at hlk
    have hF : ∀ b, OvF H w O d b → b < w.heap.size := fun b hb => hb.1
    have hgt := fun W (hW : Ext w W) => treeGet_any (w := W) (fun b hb => Nat.lt_of_lt_of_le (hF b hb) hW.size) (h.tree.agree (hW.agree hF)) h.ok hl k
    generalize getE (entsT d.T) k = og at *
    obtain ⟨p, hp⟩ := rootV_ptr d.T
    rw [hp] at c0
    simp only [treeV, hp] at hgt
    have HGT := Lib.hid hgt
    clear hgt h hF hg hp
    go_enter Tryz.func11, Tryz.ntmps11
    go_wp2_with fail
    generalize hW0 : World.alloc _ _ = W0
    obtain ⟨hx0, hz0, hb0, hb1⟩ := two_blocks w _ _ _ _ W0 hW0
    have HX0 := Lib.hid hx0
    have HB0 := Lib.hid hb0
    have HZ := Lib.hid hz0
    clear hW0 hb0 hb1 hz0 hlk
    refine (HGT.out W0 hx0).mono ?_
    rintro e w1 ⟨sl, so, rfl, hx1, hrv⟩
    have hb := HB0.out.ext hx1
    obtain ⟨q0, q1, q2, q3, q4, q5⟩ := hb.c6
    have f2 := hb.frozen
    have lb := hb.lt
    have HX1 := Lib.hid hx1
    have HRV := Lib.hid hrv
    clear hb hx1 hrv hx0 HGT
    go_wp2_with fail
    refine bodyPost_ret (v := .tuple #[aggV (og.getD zeroV) sl so, .bool og.isSome]) (by simp [results, Tryz.results11, go_sem, q0, q1, q2, q3, q4, q5]) rfl ?_
    exact getPost_end (HX0.out.trans HX1.out) (b := w.heap.size) (lo := W0.heap.size) (by omega) (by rw [HZ.out]; omega) HRV.out
  | some s =>
    rw [now_some hg]
    have hs := (h.vals (k, s) (getA_some hg)).2
    have hv : s.opt.getD zeroV = s.v ∧ s.opt.isSome = s.has := opt_val hs
    simp only [hg, hadA, Option.getD_some, Option.isSome_some] at hlk
    have hcp := fun W (hW : Ext w W) => copy_any _ s.v (Nat.le_refl _) W s.sl s.so ((hs.1.agree (hW.agree fun b hb => hb.1)).mono fun b hb => Nat.lt_of_lt_of_le hb.1 hW.size)
    obtain ⟨og, hog⟩ : ∃ og, s.opt = og := ⟨_, rfl⟩
    rw [hog] at hv ⊢
    obtain ⟨has, v, sl, so⟩ := s
    obtain ⟨rfl, rfl⟩ := hv
    have HCP := Lib.hid hcp
    clear hcp h hg hs hog
    go_enter Tryz.func11, Tryz.ntmps11
    go_wp2_with fail
    generalize hW0 : World.alloc _ _ = W0
    obtain ⟨hx0, hz0, hb0, hb1⟩ := two_blocks w _ _ _ _ W0 hW0
    have HSS := Lib.hid (show ∀ W, St (fun b => b = w.heap.size) W0 W → W.cell? ⟨w.heap.size + 1, 0, none⟩ = some (.bool og.isSome) ∧ W.cell? ⟨w.heap.size + 1, 1, none⟩ = some (.int .i64 (og.getD zeroV).kind) ∧ W.cell? ⟨w.heap.size + 1, 2, none⟩ = some (.bool (og.getD zeroV).b) ∧ W.cell? ⟨w.heap.size + 1, 3, none⟩ = some (.int .i64 (og.getD zeroV).i) ∧ W.cell? ⟨w.heap.size + 1, 4, none⟩ = some (.string (og.getD zeroV).t) ∧ W.cell? ⟨w.heap.size + 1, 5, none⟩ = some (.slice sl.a (og.getD zeroV).l.length sl.c) ∧ W.cell? ⟨w.heap.size + 1, 6, none⟩ = some (.slice so.a (og.getD zeroV).ok.length so.c) from
      fun W hW => by
        have hb := hW.blk hb1 (by omega)
        exact ⟨hb.cell 0, hb.cell 1, hb.cell 2, hb.cell 3, hb.cell 4, hb.cell 5, hb.cell 6⟩)
    have HX0 := Lib.hid hx0
    have HB0 := Lib.hid hb0
    have HZ := Lib.hid hz0
    have l0 := hb0.lt
    clear hW0 hx0 hb0 hb1 hz0 hlk
    refine wp_region_held_drew (S := (fun w' => St (fun b => b = w.heap.size) W0 w')) (by kernel_rfl) (((St.refl _ W0).drew)) (fun hHeld => ?_)
    refine heldT 0 (some 21) HSS hHeld ?_
    refine heldT 1 (some 22) HSS hHeld ?_
    refine heldT 3 (some 24) HSS hHeld ?_
    refine heldT 4 (some 25) HSS hHeld ?_
    refine held_call (i := 2) (by kernel_rfl) rfl (by rfl) (fun K hK => ?_)
    go_simp
    (refine (HCP.out _ (HX0.out.drew)).mono ?_; rintro e w2 ⟨sl2, so2, rfl, hx2, hrv⟩; have hb2 := (HB0.out.ext ((Ext.refl W0).drew)).ext hx2; obtain ⟨q0, q1, q2, q3, q4, q5⟩ := hb2.c6; have f2 := hb2.frozen; have lb := hb2.lt)
    refine hK.out _ _ (hHeld.ext hx2) (fun hHeld => ?_)
    clear hK K
    try simp only [Act.put, List.setIfInBounds_toArray, List.set_cons_zero, List.set_cons_succ]
    refine held_call (i := 5) (by kernel_rfl) rfl (by rfl) (fun K hK => ?_)
    go_simp
    skip
    refine hK.out _ _ (hHeld.putV (.inr rfl) 0 _ _ _) (fun hHeld => ?_)
    clear hK K
    try simp only [Act.put, List.setIfInBounds_toArray, List.set_cons_zero, List.set_cons_succ]
    refine heldT 6 (some 5) HSS hHeld ?_
    refine wpAnyH_done (by kernel_rfl) ?_ _
    go_wp2_with fail
    refine bodyPost_ret (v := .tuple #[aggV (og.getD zeroV) sl2 so2, .bool og.isSome]) (by simp [results, Tryz.results11, go_sem, q0, q1, q2, q3, q4, q5]) rfl ?_
    exact getPost_end ((HX0.out.drew).trans hx2) (b := w.heap.size) (lo := W0.heap.size) (by omega) (by rw [HZ.out]; omega) hrv
end Go.Proofs.YtechahocffcbpaaGreatDoor
namespace Go.Proofs.YtechahocffcbpaaGreatDoor
open Go.RowKit
set_option linter.unusedVariables false
def onlyO (R : Act → World → Prop) : Exit → Act → World → Prop
  | .normal, a, w => R a w
  | _, _, _ => False
theorem onlyO_mk {R : Act → World → Prop} {a : Act} {w : World} (h : R a w) : onlyO R .normal a w := h
def putO (tm : Array Value) : List (Nat × Value) → Array Value
  | [] => tm
  | (i, v) :: l => putO (tm.setIfInBounds i v) l
theorem wp_meetO {P : Program} {c : Code} {Q : Exit → Act → World → Prop} {a : Act} {w : World} {α : Type} (Rw : World → α → Prop) (ds : List Nat) (vals : α → List (Nat × Value))
    (h1 : c.wp P (onlyO fun a' w' => ∃ x, Rw w' x ∧ a'.defers = a.defers ∧ a'.tmps = putO a.tmps ((ds.map fun d => (d, a'.tmps.getD d undef)) ++ vals x)) a w)
    (h2 : ∀ (w' : World) (x : α) (vs : Nat → Value), Rw w' x → Q .normal { tmps := putO a.tmps ((ds.map fun d => (d, vs d)) ++ vals x), defers := a.defers } w') : c.wp P Q a w :=
  wp_mono h1 fun e a' w' h => by
    cases e with
    | normal =>
      obtain ⟨x, hr, hd, ht⟩ := h
      have := h2 w' x (fun d => a'.tmps.getD d undef) hr
      rw [← ht, ← hd] at this
      exact this
    | _ => exact h.elim
end Go.Proofs.YtechahocffcbpaaGreatDoor
namespace Go.Proofs.YtechahocffcbpaaGreatDoor
open Go.RowKit Go.Maps
set_option linter.unusedVariables false
set_option linter.unusedSimpArgs false
theorem two_drew (w : World) (t0 t1 : TypeId) (c0 c1 : Array Value) : ∀ W, ((w.alloc (.cells c0 t0)).alloc (.cells c1 t1)).drew = W →
    Ext w W ∧ W.heap.size = w.heap.size + 2 ∧ Blk W w.heap.size t0 c0 ∧ Blk W (w.heap.size + 1) t1 c1 := by
  rintro W rfl
  obtain ⟨hx, hz, h0, h1⟩ := two_blocks w t0 t1 c0 c1 _ rfl
  exact ⟨hx.drew, hz, h0, h1⟩
theorem step_made {w : World} {O : Nat} {t t0 t1 t2 : TypeId} {cs c0 c1 c2 : Array Value} (hb : Blk w O t cs) : ∀ W, ((((w.setCell ⟨O, 1, none⟩ (.map (some (w.heap.size + 1 + 1 + 1)))).alloc (.cells c0 t0)).alloc (.cells c1 t1)).alloc (.cells c2 t2)).alloc (.map #[] 0) = W →
    Sb (fun c => c = O) w W ∧ w.heap.size + 3 ≤ W.heap.size ∧ Blk W O t (cs.setIfInBounds 1 (.map (some (w.heap.size + 1 + 1 + 1)))) ∧ Blk W w.heap.size t0 c0 ∧ Blk W (w.heap.size + 1) t1 c1 ∧ Blk W (w.heap.size + 1 + 1) t2 c2 ∧ W.ownsMap Tryz.prog 9 heldR (w.heap.size + 1 + 1 + 1) 0 (mapA SV.val []) := by
  rintro W rfl
  have hz : (w.setCell ⟨O, 1, none⟩ (.map (some (w.heap.size + 1 + 1 + 1)))).heap.size = w.heap.size := World.size_setCell _ _ _
  have hs0 : Sb (fun c => c = O) w (w.setCell ⟨O, 1, none⟩ (.map (some (w.heap.size + 1 + 1 + 1)))) := (Sb.refl (fun c => c = O) w).set (p := ⟨O, 1, none⟩) (.inr rfl) _
  have hb0 := hb.set_ 1 (.map (some (w.heap.size + 1 + 1 + 1)))
  generalize w.setCell ⟨O, 1, none⟩ (.map (some (w.heap.size + 1 + 1 + 1))) = W0 at *
  obtain ⟨hx, hz3, h0, h1, h2⟩ := three_blocks W0 t0 t1 t2 c0 c1 c2 _ rfl
  rw [hz] at h0 h1 h2 hz3
  generalize ((W0.alloc (.cells c0 t0)).alloc (.cells c1 t1)).alloc (.cells c2 t2) = W3 at *
  have hm := World.ownsMap_made W3 Tryz.prog 9 heldR
  rw [show W3.heap.size = w.heap.size + 1 + 1 + 1 by omega] at hm
  exact ⟨(hs0.trans (hx.sb _)).trans (Sb.made (World.grownBy_alloc _ _ _)), by simp; omega, (hb0.ext hx).alloc _, h0.alloc _, h1.alloc _, h2.alloc _, hm⟩
theorem step_any {H : Nat → Prop} {w : World} {O : Nat} {d : OD} (h : OvAt H w O d) (hH : ∀ b, H b → b < w.heap.size) (hn : d.us.length ≤ 1000000) {k : ByteArray} (hk : k.size ≤ maxLen) {sv : SV} (hsv : SVok w (OvF H w O d) sv) :
    Calls Tryz.prog 35 #[.pointer (some ⟨O, 0, none⟩), .string k, sv.val] w (StepPost H O d k sv w) := by
  obtain ⟨i0, hi, hz0, hz1, hz2⟩ := info_parts Tryz.infoFn
  have hmm := @run_makeMap Tryz.prog
  have qmn : ∀ (w : World) (r : Option Nat), (binOp .eql 26 (.map r) (.map none)).run Tryz.prog w = .ok (.bool r.isNone) w := fun w r => run_eql_map_nil w _ _ _ r Tryz.underlying26
  have c1 : w.cell? ⟨O, 1, none⟩ = some (.map d.mb) := h.blk.cell 1
  have f1 := h.blk.frozen 1
  have lO := h.blk.lt
  have hrl : ∀ i, d.s.row = some i → i < w.heap.size := fun i hi => h.row_lt hi
  have HAT := Lib.hid h
  have HHH := Lib.hid hH
  have HSV := Lib.hid hsv
  have HRL := Lib.hid hrl
  clear h hH hsv hrl
  obtain ⟨has, v, sl, so⟩ := sv
  show Calls _ _ #[_, _, .agg #[.bool has, .int .i64 v.kind, .bool v.b, .int .i64 v.i, .string v.t, .slice sl.a v.l.length sl.c, .slice so.a v.ok.length so.c]] _ _
  have l1 : O < w.heap.size + 1 := by omega
  have l2 : O < w.heap.size + 1 + 1 := by omega
  go_enter Tryz.func35, Tryz.ntmps35
  go_upto_if 12 with fail
  go_cut [] (fun wc => ∃ b, StepMid H w O d k ⟨has, v, sl, so⟩ b wc)
  case first =>
    obtain ⟨mb, hmb⟩ : ∃ mb, d.mb = mb := ⟨_, rfl⟩
    rw [hmb] at c1 ⊢
    have HMB := Lib.hid hmb
    clear hmb
    rcases mb with _ | b
    · go_wp2_with fail
      generalize hW0 : World.alloc _ _ = W0
      obtain ⟨hs0, hz0, hbO, hb0, hb1, hb2, hown⟩ := step_made HAT.out.blk W0 hW0
      clear hW0
      go_meet
      case rel =>
        have hat := HAT.out.made HMB.out (b := w.heap.size + 1 + 1 + 1) (by omega) HHH.out hs0 hbO hown
        refine ⟨_, hat, hs0.mono fun i _ h => .inl h, .inr (by omega), hz0, hb0, hb1, hb2, ?_⟩
        refine (HSV.out.agree (fun i hi => hs0.block i hi.1 fun e => hi.2.1 (.inl e))).mono fun i hi => ⟨Nat.lt_of_lt_of_le hi.1 hs0.size, fun e => ?_, hi.2.2⟩
        rcases e with e | e | e
        · exact hi.2.1 (.inl e)
        · have e : some (w.heap.size + 1 + 1 + 1) = some i := e
          injection e with e
          have := hi.1; omega
        · exact hi.2.1 (.inr (.inr e))
    · go_wp2_with fail
      generalize hW0 : World.alloc _ _ = W0
      obtain ⟨hx0, hz0', hb0, hb1, hb2⟩ := three_blocks w _ _ _ _ _ _ W0 hW0
      clear hW0
      go_meet
      case rel =>
        have hat := HAT.out.ext hx0
        have hd : d = { d with mb := some b } := by rw [← HMB.out]
        refine ⟨b, by rw [← hd]; exact hat, hx0.sb _, .inl HMB.out, by omega, hb0, hb1, hb2, ?_⟩
        rw [← hd]
        exact (HSV.out.agree (hx0.agree fun b hb => hb.1)).mono fun i hi => ⟨Nat.lt_of_lt_of_le hi.1 hx0.size, hi.2⟩
  case rest =>
    obtain ⟨b, hM⟩ := hcut
    have hlk : ∀ W, Ext wc W → (Instr.lookup 26 (.map (some b)) (.string k) true).run Tryz.prog W = .ok (.tuple #[(hadA d.C k).val, .bool (getA d.C k).isSome]) W := fun W hW =>
      look_ov (hM.at_.ext hW).map hk
    obtain ⟨o, ho⟩ : ∃ o, hadA d.C k = o := ⟨_, rfl⟩
    obtain ⟨g, hg⟩ : ∃ g, (getA d.C k).isSome = g := ⟨_, rfl⟩
    rw [ho, hg] at hlk
    obtain ⟨oh, ov, osl, oso⟩ := o
    have HO := Lib.hid ho
    have HG := Lib.hid hg
    have lO3 : O < wc.heap.size := hM.at_.blk.lt
    have hbig := hM.big
    have HM := Lib.hid hM
    have HSS := Lib.hid (show ∀ W, Ext wc W → W.cell? ⟨w.heap.size, 0, none⟩ = some (.pointer (some ⟨O, 0, none⟩)) ∧ W.cell? ⟨O, 1, none⟩ = some (.map (some b)) ∧ W.cell? ⟨w.heap.size + 1, 0, none⟩ = some (.string k) ∧
        (Instr.lookup 26 (.map (some b)) (.string k) true).run Tryz.prog W = .ok (.tuple #[.agg #[.bool oh, .int .i64 ov.kind, .bool ov.b, .int .i64 ov.i, .string ov.t, .slice osl.a ov.l.length osl.c, .slice oso.a ov.ok.length oso.c], .bool g]) W from
      fun W hW => ⟨(hM.bo.ext hW).cell 0, ((hM.at_.ext hW).blk).cell 1, (hM.bk.ext hW).cell 0, hlk W hW⟩)
    clear hM hlk ho hg c1 f1 l1 l2
    go_wp2_with fail
    refine wp_meetO (α := Nat × Nat) (fun w' x => Ext wc w' ∧ (wc.heap.size ≤ x.1 ∧ x.1 < w'.heap.size) ∧ (wc.heap.size ≤ x.2 ∧ x.2 < w'.heap.size) ∧ Blk w' x.1 85 #[.bool oh, .int .i64 ov.kind, .bool ov.b, .int .i64 ov.i, .string ov.t, .slice osl.a ov.l.length osl.c, .slice oso.a ov.ok.length oso.c] ∧ Blk w' x.2 4 #[.bool g]) [17, 18, 19, 20, 21, 22, 23, 24, 25] (fun x => [(6, .pointer (some ⟨x.1, 0, none⟩)), (7, .pointer (some ⟨x.2, 0, none⟩))]) ?h1 ?h2
    case h1 =>
      refine wp_region_held_drew (S := (fun w' => Ext wc w')) (by kernel_rfl) (((Ext.refl wc).drew)) (fun hHeld => ?_)
      refine heldT 0 (some 18) HSS hHeld ?_
      refine heldT 1 (some 19) HSS hHeld ?_
      refine heldT 2 (some 20) HSS hHeld ?_
      refine heldT 3 (some 21) HSS hHeld ?_
      refine heldT 4 (some 22) HSS hHeld ?_
      refine heldT 5 (some 23) HSS hHeld ?_
      refine heldT 6 (some 17) HSS hHeld ?_
      refine heldT 7 (some 24) HSS hHeld ?_
      refine heldT 8 (some 25) HSS hHeld ?_
      refine held_two (i := 9) (j := 10) (by kernel_rfl) rfl rfl (by rfl) (by rfl) (fun K hK => ?_) (fun K hK => ?_)
      · go_simp
        skip
        refine hK.out _ _ ((by first|exact (((Ext.refl _).drew).alloc _ _).alloc _ _|exact ((Ext.refl _).drew).alloc _ _)) (fun hHeld => ?_)
        clear hK K
        try simp only [Act.put, List.setIfInBounds_toArray, List.set_cons_zero, List.set_cons_succ]
        refine held_call (i := 10) (by kernel_rfl) rfl (by rfl) (fun K hK => ?_)
        go_simp
        skip
        refine hK.out _ _ ((by first|exact (((Ext.refl _).drew).alloc _ _).alloc _ _|exact ((Ext.refl _).drew).alloc _ _)) (fun hHeld => ?_)
        clear hK K
        try simp only [Act.put, List.setIfInBounds_toArray, List.set_cons_zero, List.set_cons_succ]
        refine held_call (i := 11) (by kernel_rfl) rfl (by rfl) (fun K hK => ?_)
        go_simp
        skip
        refine hK.out _ _ ((by first|exact (((Ext.refl _).drew).alloc _ _).alloc _ _|exact (((Ext.refl _).alloc _ _).alloc _ _).drew)) (fun hHeld => ?_)
        clear hK K
        try simp only [Act.put, List.setIfInBounds_toArray, List.set_cons_zero, List.set_cons_succ]
        refine held_call (i := 12) (by kernel_rfl) rfl (by rfl) (fun K hK => ?_)
        go_simp
        skip
        refine hK.out _ _ ((by first|exact (((Ext.refl _).drew).alloc _ _).alloc _ _|exact (((Ext.refl _).alloc _ _).alloc _ _).drew)) (fun hHeld => ?_)
        clear hK K
        try simp only [Act.put, List.setIfInBounds_toArray, List.set_cons_zero, List.set_cons_succ]
        refine wpAnyH_done (by kernel_rfl) ?_ _
        generalize hWm : World.drew _ = wm
        obtain ⟨hxm, hzm, hb1, hb2⟩ := two_drew wc _ _ _ _ wm hWm
        refine onlyO_mk ⟨(wc.heap.size, wc.heap.size + 1), ⟨hxm, ⟨Nat.le_refl _, by show wc.heap.size < _; omega⟩, ⟨Nat.le_succ _, by show wc.heap.size + 1 < _; omega⟩, hb1, hb2⟩, by kernel_rfl, ?_⟩
        simp only [putO, List.map_cons, List.map_nil, List.cons_append, List.nil_append, List.setIfInBounds_toArray, List.set_cons_zero, List.set_cons_succ]
        kernel_rfl
      · go_simp
        skip
        refine hK.out _ _ ((by first|exact (((Ext.refl _).drew).alloc _ _).alloc _ _|exact ((Ext.refl _).drew).alloc _ _)) (fun hHeld => ?_)
        clear hK K
        try simp only [Act.put, List.setIfInBounds_toArray, List.set_cons_zero, List.set_cons_succ]
        refine held_call (i := 9) (by kernel_rfl) rfl (by rfl) (fun K hK => ?_)
        go_simp
        skip
        refine hK.out _ _ ((by first|exact (((Ext.refl _).drew).alloc _ _).alloc _ _|exact ((Ext.refl _).drew).alloc _ _)) (fun hHeld => ?_)
        clear hK K
        try simp only [Act.put, List.setIfInBounds_toArray, List.set_cons_zero, List.set_cons_succ]
        refine held_call (i := 11) (by kernel_rfl) rfl (by rfl) (fun K hK => ?_)
        go_simp
        skip
        refine hK.out _ _ ((by first|exact (((Ext.refl _).drew).alloc _ _).alloc _ _|exact (((Ext.refl _).alloc _ _).alloc _ _).drew)) (fun hHeld => ?_)
        clear hK K
        try simp only [Act.put, List.setIfInBounds_toArray, List.set_cons_zero, List.set_cons_succ]
        refine held_call (i := 12) (by kernel_rfl) rfl (by rfl) (fun K hK => ?_)
        go_simp
        skip
        refine hK.out _ _ ((by first|exact (((Ext.refl _).drew).alloc _ _).alloc _ _|exact (((Ext.refl _).alloc _ _).alloc _ _).drew)) (fun hHeld => ?_)
        clear hK K
        try simp only [Act.put, List.setIfInBounds_toArray, List.set_cons_zero, List.set_cons_succ]
        refine wpAnyH_done (by kernel_rfl) ?_ _
        generalize hWm : World.drew _ = wm
        obtain ⟨hxm, hzm, hb1, hb2⟩ := two_drew wc _ _ _ _ wm hWm
        refine onlyO_mk ⟨(wc.heap.size + 1, wc.heap.size), ⟨hxm, ⟨Nat.le_succ _, by show wc.heap.size + 1 < _; omega⟩, ⟨Nat.le_refl _, by show wc.heap.size < _; omega⟩, hb2, hb1⟩, by kernel_rfl, ?_⟩
        simp only [putO, List.map_cons, List.map_nil, List.cons_append, List.nil_append, List.setIfInBounds_toArray, List.set_cons_zero, List.set_cons_succ]
        kernel_rfl
    rintro wm ⟨bd, bw⟩ uu ⟨hxm, hd1, hw1, hbd, hbw⟩
    simp only [putO, List.map_cons, List.map_nil, List.cons_append, List.nil_append, List.setIfInBounds_toArray, List.set_cons_zero, List.set_cons_succ]
    dsimp only at hd1 hw1 hbd hbw
    have hbm := HM.out.at_.blk.ext hxm
    have c2 : wm.cell? ⟨O, 2, none⟩ = some (.slice d.s.a d.us.length d.s.c) := hbm.cell 2
    have f2 := hbm.frozen 2
    have lOm := hbm.lt
    have hob := HM.out.bo.ext hxm
    have c3 : wm.cell? ⟨w.heap.size, 0, none⟩ = some (.pointer (some ⟨O, 0, none⟩)) := hob.cell 0
    have l3 := hob.lt
    obtain ⟨xs, hl, hown, hun⟩ := HM.out.at_.row
    have HL := Lib.hid (show xs.length = d.us.length from hl)
    have HUN := Lib.hid hun
    have HOX := Lib.hid (show ∀ W, Ext wm W → W.ownsRow 0 1 1 (.slice d.s.a d.us.length d.s.c) d.us.length xs from fun W hW => own_agree hown ((hxm.trans hW).agree fun b (hb : b < wc.heap.size) => hb) fun b hb => (own_row hown hb).2)
    have hrO : d.s.row ≠ some O := HM.out.at_.ne.2.1
    have hr3 : d.s.row ≠ some w.heap.size := fun e => by have := HRL.out _ e; omega
    have hone : ∀ u ∈ [undoC bw bd w.heap.size (w.heap.size + 1)], u.oneCell' = true := by simp [Value.oneCell']
    have h63 : d.us.length + 1 ≤ maxLen := by unfold maxLen; omega
    have hby : (d.us.length + 1) * 8 ≤ 140737488355328 := by omega
    have HXM := Lib.hid hxm
    have HBD := Lib.hid hbd
    have HBW := Lib.hid hbw
    have HW1 := Lib.hid hw1
    have HD1 := Lib.hid hd1
    clear hbd hbw hw1 hd1 hbm hob hl hun hown hxm HSS
    go_wp2_with fail
    refine wp_meetO (α := Sl × World × World) (fun w' x => Ext wm x.2.1 ∧ x.2.2.ownsRow 0 1 1 (.slice x.1.a (d.us.length + 1) x.1.c) (d.us.length + 1) (xs ++ [undoC bw bd w.heap.size (w.heap.size + 1)]) ∧ Wr x.2.1 x.2.2 d.s.row ∧ (x.1.a = d.s.a ∨ x.1.a = some ⟨x.2.1.heap.size, 0, none⟩ ∧ Wr x.2.1 x.2.2 none) ∧ w' = x.2.2.setCell ⟨O, 2, none⟩ (.slice x.1.a (d.us.length + 1) x.1.c)) [26, 27, 28, 29, 30, 31, 32, 33, 34, 35] (fun _ => []) ?g1 ?g2
    case g1 =>
      go_region_law (refine step_append_x _ rfl (.tmp 30) (.tmp 32) 27 rfl 0 1 i0 _ 1 8 Tryz.underlying27 hi hz0 hz1 hz2 rfl (by decide) d.s d.us.length xs (by rfl) (HOX.out _ (by first | exact ((Ext.refl wm).drew).alloc _ _ | exact ((Ext.refl wm).alloc _ _).drew)) (fun b => b = wm.heap.size) ⟨some ⟨wm.heap.size, 0, none⟩, 1⟩ 1 [undoC bw bd w.heap.size (w.heap.size + 1)] (by rfl) (Rd.block (Blk.new _ _ _) (by decide) rfl) hone h63 hby (Nat.zero_le _) ?_; intro s5 w5 hown5 hwr5 hs5; have hq5 := hwr5.cell0 (w := wm) (o := 2) (by first | exact ((Ext.refl wm).drew).alloc _ _ | exact ((Ext.refl wm).alloc _ _).drew) hrO lOm; have cq5 := hq5.1.trans c2; have lq5 := hq5.2; have hp5 := hwr5.cell0 (w := wm) (o := 0) (by first | exact ((Ext.refl wm).drew).alloc _ _ | exact ((Ext.refl wm).alloc _ _).drew) hr3 l3; have cp5 := hp5.1.trans c3; have f5 : w5.frozen? ⟨O, 2, none⟩ = false := (hwr5.fz _ _).trans (((by first | exact ((Ext.refl wm).drew).alloc _ _ | exact ((Ext.refl wm).alloc _ _).drew : Ext wm _).frozen (o := 2) lOm).trans f2); have HO5 := Lib.hid hown5; have HW5 := Lib.hid hwr5; have HS5 := Lib.hid hs5; clear hown5 hwr5 hs5 hq5 hp5)
      all_goals
        refine onlyO_mk ⟨(s5, _, w5), ⟨by first | exact ((Ext.refl wm).drew).alloc _ _ | exact ((Ext.refl wm).alloc _ _).drew, HO5.out, HW5.out, HS5.out, rfl⟩, by kernel_rfl, ?_⟩
        simp only [putO, List.map_cons, List.map_nil, List.append_nil, List.cons_append, List.nil_append, List.setIfInBounds_toArray, List.set_cons_zero, List.set_cons_succ]
        kernel_rfl
    rintro w6 ⟨s5, W5, w5⟩ vv ⟨hx5, ho5, hw5, hs5, rfl⟩
    simp only [putO, List.map_cons, List.map_nil, List.append_nil, List.cons_append, List.nil_append, List.setIfInBounds_toArray, List.set_cons_zero, List.set_cons_succ]
    dsimp only at hx5 ho5 hw5 hs5
    have hcm : Ext wc W5 := HXM.out.trans hx5
    have hsb6 : Sb (fun c => c = O ∨ d.s.row = some c) wc (w5.setCell ⟨O, 2, none⟩ (.slice s5.a (d.us.length + 1) s5.c)) :=
      ((hcm.sb _).trans ⟨hw5.grown.os, hw5.grown.tape, hw5.grown.output, hw5.grown.size, fun i hi hn => hw5.grown.block i hi fun e => hn (.inr e.symm)⟩).trans ((Sb.refl _ w5).set (p := ⟨O, 2, none⟩) (.inr (.inl rfl)) _)
    have hbm5 : Blk w5 O 29 #[rootV d.T, .map (some b), .slice d.s.a d.us.length d.s.c] := (hw5.agree (F := fun c => c = O) (fun i hi => by rw [hi]; exact Nat.lt_of_lt_of_le lO3 hcm.size) (fun i hi e => hrO (by rw [hi, e])) O rfl).trans (HM.out.at_.blk.ext hcm)
    have hb6 := hbm5.set_ 2 (.slice s5.a (d.us.length + 1) s5.c)
    have hnO : ¬ O = b := fun e => HM.out.at_.ne.1 (by rw [e])
    have n0 := OvMap.ne HM.out.at_.map HM.out.bo
    have n1 := OvMap.ne HM.out.at_.map HM.out.bk
    have n2 := OvMap.ne HM.out.at_.map HM.out.bs
    have k0 := hsb6.blk HM.out.bo (fun e => by
      rcases e with e | e
      · omega
      · have := HRL.out _ e; omega)
    have k1 := hsb6.blk HM.out.bk (fun e => by
      rcases e with e | e
      · omega
      · have := HRL.out _ e; omega)
    have k2 := hsb6.blk HM.out.bs (fun e => by
      rcases e with e | e
      · omega
      · have := HRL.out _ e; omega)
    have hmap6 : OvMap (w5.setCell ⟨O, 2, none⟩ (.slice s5.a (d.us.length + 1) s5.c)) (some b) d.C := HM.out.at_.map.heap fun i hi => by
      injection hi with hi
      subst hi
      exact hsb6.block b (HM.out.at_.map.lt rfl) fun e => by
        rcases e with e | e
        · exact hnO e.symm
        · exact HM.out.at_.ne.2.2 b rfl e
    have HX5 := Lib.hid hx5
    have HO5 := Lib.hid ho5
    have HW5 := Lib.hid hw5
    have HS5 := Lib.hid hs5
    obtain ⟨W6, hW6⟩ : ∃ W6, w5.setCell ⟨O, 2, none⟩ (.slice s5.a (d.us.length + 1) s5.c) = W6 := ⟨_, rfl⟩
    rw [hW6] at hb6 k0 k1 k2 hmap6 ⊢
    have HW6 := Lib.hid hW6
    have HMAP := Lib.hid hmap6
    have HSS := Lib.hid (show ∀ W, Sb (fun c => c = b) W6 W → W.cell? ⟨w.heap.size, 0, none⟩ = some (.pointer (some ⟨O, 0, none⟩)) ∧ W.cell? ⟨O, 1, none⟩ = some (.map (some b)) ∧ W.cell? ⟨w.heap.size + 1, 0, none⟩ = some (.string k) ∧ W.cell? ⟨w.heap.size + 1 + 1, 0, none⟩ = some (.bool has) ∧ W.cell? ⟨w.heap.size + 1 + 1, 1, none⟩ = some (.int .i64 v.kind) ∧ W.cell? ⟨w.heap.size + 1 + 1, 2, none⟩ = some (.bool v.b) ∧ W.cell? ⟨w.heap.size + 1 + 1, 3, none⟩ = some (.int .i64 v.i) ∧ W.cell? ⟨w.heap.size + 1 + 1, 4, none⟩ = some (.string v.t) ∧ W.cell? ⟨w.heap.size + 1 + 1, 5, none⟩ = some (.slice sl.a v.l.length sl.c) ∧ W.cell? ⟨w.heap.size + 1 + 1, 6, none⟩ = some (.slice so.a v.ok.length so.c) from
      fun W hW => ⟨(hW.blk k0 n0).cell 0, (hW.blk hb6 hnO).cell 1, (hW.blk k1 n1).cell 0, (hW.blk k2 n2).cell 0, (hW.blk k2 n2).cell 1, (hW.blk k2 n2).cell 2, (hW.blk k2 n2).cell 3, (hW.blk k2 n2).cell 4, (hW.blk k2 n2).cell 5, (hW.blk k2 n2).cell 6⟩)
    have hCs : d.C.length < maxLen := by have := HAT.out.few; unfold maxLen; omega
    clear hcm hsb6 hbm5 hb6 n0 n1 n2 k0 k1 k2 hmap6 hx5 ho5 hw5 hs5 hW6 c2 f2 lOm c3 l3 hone h63 hby
    go_wp2_with fail
    refine wp_region_held_drew (S := (fun w' => Sb (fun c => c = b) W6 w')) (by kernel_rfl) (((Sb.refl _ W6).drew)) (fun hHeld => ?_)
    refine heldT 0 (some 36) HSS hHeld ?_
    refine heldT 1 (some 37) HSS hHeld ?_
    refine heldT 2 (some 38) HSS hHeld ?_
    refine heldT 3 (some 39) HSS hHeld ?_
    refine heldT 4 (some 40) HSS hHeld ?_
    refine heldT 5 (some 41) HSS hHeld ?_
    refine held_call (i := 6) (by kernel_rfl) rfl (by rfl) (fun K hK => ?_)
    skip
    (refine oper_putA (b := b) (C := d.C) (k := k) (s := ⟨has, v, sl, so⟩) rfl rfl rfl rfl (HMAP.out.heap fun _ _ => rfl) hk hCs HAT.out.sorted ?_; intro w7 hown7 hsb7)
    refine hK.out _ _ (hHeld.trans hsb7) (fun hHeld => ?_)
    clear hK K
    try simp only [Act.put, List.setIfInBounds_toArray, List.set_cons_zero, List.set_cons_succ]
    refine wpAnyH_done (by kernel_rfl) ?_ _
    have h7 : Sb (fun c => c = b) (w5.setCell ⟨O, 2, none⟩ (.slice s5.a (d.us.length + 1) s5.c)) w7 := by rw [HW6.out]; exact hHeld
    have hend := step_end HM.out lO HRL.out HHH.out hk HXM.out HW1.out HD1.out (by rw [HO.out]; exact HBD.out) (by rw [HG.out]; exact HBW.out) HX5.out HL.out HUN.out HO5.out HW5.out HS5.out hown7 h7
    go_end0
    exact ⟨⟨_, rfl⟩, _, _, hend⟩
abbrev Nw (w w' : World) : Prop := Sb (fun _ => False) w w'
theorem Nw.any {w w' : World} (h : Nw w w') (H : Nat → Prop) : Sb H w w' := h.mono fun _ _ e => e.elim
theorem Nw.blk {w w' : World} (h : Nw w w') {g : Nat} {t : TypeId} {cs : Array Value} (hb : Blk w g t cs) : Blk w' g t cs := Sb.blk h hb fun e => e
theorem Nw.agree {w w' : World} (h : Nw w w') {F : Nat → Prop} (hF : ∀ b, F b → b < w.heap.size) : Agree F w w' := fun b hb => h.block b (hF b hb) fun e => e
theorem Nw.of {w w' : World} (h : Ext w w') : Nw w w' := h.sb _
section
variable {H : Nat → Prop} {w w' : World} {O : Nat} {d d' : OD}
theorem OvAt.nw (h : OvAt H w O d) (k : Nw w w') : OvAt H w' O d := h.sb k fun _ hb => hb.elim
theorem OvTo.after {w0 : World} (h : OvTo H w O d d' w') (k : Nw w0 w) : OvTo H w0 O d d' w' :=
  ⟨h.at_, (k.any _).trans h.sb, fun b hb => (h.new b hb).imp id fun hh => Nat.le_trans k.size hh⟩
theorem OvTo.then (h : OvTo H w O d d' w') {w2 : World} (k : Nw w' w2) : OvTo H w O d d' w2 := ⟨h.at_.nw k, h.sb.trans (k.any _), h.new⟩
def OD.step (d : OD) (k : ByteArray) (sv : SV) (mb : Option Nat) (s : Sl) : OD := ⟨d.T, mb, s, d.us ++ [⟨k, getA d.C k⟩], d.Hs ++ [putA d.C k sv], putA d.C k sv⟩
end
def DelPostO (H : Nat → Prop) (O : Nat) (d : OD) (k : ByteArray) (w : World) (e : Ending) (w' : World) : Prop :=
  e = .returned (.bool (d.now k).isSome) ∧ (((d.now k).isSome = false ∧ Nw w w') ∨ ((d.now k).isSome = true ∧ ∃ mb s, OvTo H w O d (d.step k zeroSV mb s) w'))
theorem delete_ov {H : Nat → Prop} {w : World} {O : Nat} {d : OD} (h : OvAt H w O d) (hH : ∀ b, H b → b < w.heap.size) (hn : d.us.length ≤ 1000000) (hl : (entsT d.T).length ≤ 1000000) {k : ByteArray} (hk : k.size ≤ maxLen) :
    Calls Tryz.prog 21 #[.pointer (some ⟨O, 0, none⟩), .string k] w (DelPostO H O d k w) := by
  have hg := get_ov h hl hk
  have hst := fun W (hW : Ext w W) => step_any (h.ext hW) (fun b hb => Nat.lt_of_lt_of_le (hH b hb) hW.size) hn hk (sv := zeroSV) ⟨rv_zeroO _ _, fun _ => rfl⟩
  unfold DelPostO
  generalize d.now k = og at *
  have HST := Lib.hid hst
  have HG := Lib.hid hg
  clear h hH hst hg
  go_enter Tryz.func21, Tryz.ntmps21
  go_wp2_with fail
  refine HG.out.mono ?_
  rintro e w1 ⟨sl, so, rfl, hx1, -⟩
  have HX1 := Lib.hid hx1
  clear hx1
  cases og with
  | none =>
    go_wp2_with fail
    go_ret
    exact ⟨rfl, .inl ⟨rfl, Nw.of (HX1.out.alloc _ _)⟩⟩
  | some v =>
    go_wp2_with fail
    have hx2 := HX1.out.alloc (w := w1) #[.int .i64 v.kind, .bool v.b, .int .i64 v.i, .string v.t, .slice sl.a v.l.length sl.c, .slice so.a v.ok.length so.c] 34
    refine (HST.out _ hx2).mono ?_
    rintro e w3 ⟨⟨r, rfl⟩, mb, s, hto⟩
    have HTO := Lib.hid (hto.after (Nw.of hx2))
    clear hto hx2
    go_wp2_with fail
    go_ret
    exact ⟨rfl, .inr ⟨rfl, mb, s, HTO.out⟩⟩
theorem put_ov_key {w : World} {O : Nat} {k : ByteArray} {v : Val} {sl so : Sl} {c : Int} (hmay : ∀ W, Nw w W → Calls Tryz.prog 33 #[.string k] W fun e w' => e = .returned (.int .i64 c) ∧ Nw W w') (hc : c ≠ 0) :
    Calls Tryz.prog 10 #[.pointer (some ⟨O, 0, none⟩), .string k, aggV v sl so] w fun e w' => e = .returned (.int .i64 8) ∧ Nw w w' := by
  have HM := Lib.hid hmay
  have g0 : (c != 0) = true := bne_iff_ne.2 hc
  clear hmay hc
  go_enter Tryz.func10, Tryz.ntmps10
  go_wp2_with fail
  have hx0 : Ext w (w.alloc (.cells #[.int .i64 v.kind, .bool v.b, .int .i64 v.i, .string v.t, .slice sl.a v.l.length sl.c, .slice so.a v.ok.length so.c] 34)) := (Ext.refl w).alloc _ _
  refine (HM.out _ (Nw.of hx0)).mono ?_
  rintro e w1 ⟨rfl, hx1⟩
  have HX1 := Lib.hid ((Nw.of hx0).trans hx1)
  clear hx0 hx1
  go_wp2_with fail
  go_ret
  exact ⟨rfl, HX1.out⟩
/-- A value does not fit: nothing is put. -/
theorem put_ov_no {w : World} {O : Nat} {k : ByteArray} {v : Val} {sl so : Sl} {c : Int} (hmay : ∀ W, Nw w W → Calls Tryz.prog 33 #[.string k] W fun e w' => e = .returned (.int .i64 0) ∧ Nw W w')
    (hfit : ∀ W, Nw w W → Calls Tryz.prog 34 #[aggV v sl so] W fun e w' => e = .returned (.int .i64 c) ∧ Nw W w') (hc : c ≠ 0) :
    Calls Tryz.prog 10 #[.pointer (some ⟨O, 0, none⟩), .string k, aggV v sl so] w fun e w' => e = .returned (.int .i64 c) ∧ Nw w w' := by
  have HM := Lib.hid hmay
  have HF := Lib.hid hfit
  have g0 : (c != 0) = true := bne_iff_ne.2 hc
  clear hmay hc hfit
  go_enter Tryz.func10, Tryz.ntmps10
  go_wp2_with fail
  have hx0 : Ext w (w.alloc (.cells #[.int .i64 v.kind, .bool v.b, .int .i64 v.i, .string v.t, .slice sl.a v.l.length sl.c, .slice so.a v.ok.length so.c] 34)) := (Ext.refl w).alloc _ _
  have hb0 := Blk.new w 34 #[.int .i64 v.kind, .bool v.b, .int .i64 v.i, .string v.t, .slice sl.a v.l.length sl.c, .slice so.a v.ok.length so.c]
  refine (HM.out _ (Nw.of hx0)).mono ?_
  rintro e w1 ⟨rfl, hx1⟩
  obtain ⟨q0, q1, q2, q3, q4, q5⟩ := (hx1.blk hb0).c6
  have hx01 := (Nw.of hx0).trans hx1
  have HX1 := Lib.hid hx01
  clear hx0 hx1 hx01 hb0
  go_wp2_with fail
  refine (HF.out _ HX1.out).mono ?_
  rintro e w2 ⟨rfl, hx2⟩
  have HX2 := Lib.hid (HX1.out.trans hx2)
  clear hx2 q0 q1 q2 q3 q4 q5
  go_wp2_with fail
  go_ret
  exact ⟨rfl, HX2.out⟩
def PutPostO (H : Nat → Prop) (O : Nat) (d : OD) (k : ByteArray) (v : Val) (w : World) (e : Ending) (w' : World) : Prop :=
  e = .returned (.int .i64 0) ∧ ∃ sl so mb s, OvTo H w O d (d.step k ⟨true, v, sl, so⟩ mb s) w'
theorem put_ov {H : Nat → Prop} {w : World} {O : Nat} {d : OD} (h : OvAt H w O d) (hH : ∀ b, H b → b < w.heap.size) (hn : d.us.length ≤ 1000000) {k : ByteArray} (hk : k.size ≤ maxLen) {v : Val} {sl so : Sl} (hv : RV w (Lt w.heap.size) v sl so)
    (hmay : ∀ W, Nw w W → Calls Tryz.prog 33 #[.string k] W fun e w' => e = .returned (.int .i64 0) ∧ Nw W w')
    (hfit : ∀ W, Nw w W → Calls Tryz.prog 34 #[aggV v sl so] W fun e w' => e = .returned (.int .i64 0) ∧ Nw W w') :
    Calls Tryz.prog 10 #[.pointer (some ⟨O, 0, none⟩), .string k, aggV v sl so] w (PutPostO H O d k v w) := by
  have hst := fun W (hW : Nw w W) sv hsv => step_any (h.nw hW) (fun b hb => Nat.lt_of_lt_of_le (hH b hb) hW.size) hn hk (sv := sv) hsv
  have hcp := fun W (hW : Nw w W) => copy_any _ v (Nat.le_refl _) W sl so ((hv.agree (hW.agree fun b hb => hb)).mono fun b hb => Nat.lt_of_lt_of_le hb hW.size)
  have hown : ∀ b, OvB O d b → b < w.heap.size := fun b hb => h.own_lt hb
  have HM := Lib.hid hmay
  have HF := Lib.hid hfit
  have HST := Lib.hid hst
  have HCP := Lib.hid hcp
  have HOWN := Lib.hid hown
  have HHH := Lib.hid hH
  clear hmay hfit h hv hst hcp hown hH
  go_enter Tryz.func10, Tryz.ntmps10
  go_wp2_with fail
  have hx0 : Ext w (w.alloc (.cells #[.int .i64 v.kind, .bool v.b, .int .i64 v.i, .string v.t, .slice sl.a v.l.length sl.c, .slice so.a v.ok.length so.c] 34)) := (Ext.refl w).alloc _ _
  have hb0 := Blk.new w 34 #[.int .i64 v.kind, .bool v.b, .int .i64 v.i, .string v.t, .slice sl.a v.l.length sl.c, .slice so.a v.ok.length so.c]
  refine (HM.out _ (Nw.of hx0)).mono ?_
  rintro e w1 ⟨rfl, hx1⟩
  have hb1 := hx1.blk hb0
  obtain ⟨q0, q1, q2, q3, q4, q5⟩ := hb1.c6
  have hx01 := (Nw.of hx0).trans hx1
  have HX1 := Lib.hid hx01
  have HB1 := Lib.hid hb1
  clear hx0 hx1 hx01 hb0 hb1 HM
  go_wp2_with fail
  refine (HF.out _ HX1.out).mono ?_
  rintro e w2 ⟨rfl, hx2⟩
  have hb2 := hx2.blk HB1.out
  have hx02 := HX1.out.trans hx2
  have HX2 := Lib.hid hx02
  clear hx2 q0 q1 q2 q3 q4 q5 HB1 HF
  obtain ⟨q0, q1, q2, q3, q4, q5⟩ := hb2.c6
  clear hb2 hx02
  go_wp2_with fail
  refine (HCP.out _ HX2.out).mono ?_
  rintro e w3 ⟨sl', so', rfl, hx3, hrv⟩
  have hx03 := HX2.out.trans (Nw.of hx3)
  have hok : SVok w3 (OvF H w3 O d) ⟨true, v, sl', so'⟩ := ⟨hrv.mono fun i hi => ⟨hi.2, fun e => by have := HOWN.out i e; have := HX2.out.size; have := hi.1; omega, fun e => by have := HHH.out i e; have := HX2.out.size; have := hi.1; omega⟩, fun e => by cases e⟩
  have hcall := HST.out w3 hx03 _ hok
  have HX3 := Lib.hid hx03
  have HCALL := Lib.hid hcall
  clear hx3 hrv hx03 hok hcall q0 q1 q2 q3 q4 q5 HCP HST
  go_wp2_with fail
  refine HCALL.out.mono ?_
  rintro e w4 ⟨⟨r, rfl⟩, mb, s, hto⟩
  have HTO := Lib.hid (hto.after HX3.out)
  clear hto
  go_wp2_with fail
  go_ret
  exact ⟨rfl, sl', so', mb, s, HTO.out⟩
end Go.Proofs.YtechahocffcbpaaGreatDoor
namespace Go.Proofs.YtechahocffcbpaaGreatDoor
open Go.RowKit Go.Maps Go.Sort Go.Shelf
set_option linter.unusedVariables false
def Tryz.keys38_ren : Go.Shelf.Ren := ⟨fun | 7 => 38 | 10 => 64 | n => n, fun | 23 => 26 | 26 => 9 | 3 => 85 | 28 => 89 | 0 => 0 | 27 => 88 | 33 => 58 | 4 => 4 | n => n, fun | n => n⟩
theorem Tryz.keys38 : Go.Proofs.SlLaysZ.n7 Tryz.prog Tryz.keys38_ren := {
  mixed := by kernel_rfl
  f7 := ⟨Tryz.f38.name, by decide, Tryz.func38.trans (congrArg some (by kernel_rfl))⟩
  f10 := ⟨Tryz.f64.name, by decide, Tryz.func64.trans (congrArg some (by kernel_rfl))⟩
  t0 := Tryz.underlying0
  a0 := Tryz.isAgg0
  z0 := Tryz.sizeOf0
  v0 := Tryz.zeroValue0
  t4 := Tryz.underlying4
  a4 := Tryz.isAgg4
  z4 := Tryz.sizeOf4
  v4 := Tryz.zeroValue4
  t23 := Tryz.underlying26
  a23 := Tryz.isAgg26
  z23 := Tryz.sizeOf26
  v23 := Tryz.zeroValue26
  t26 := Tryz.underlying9
  a26 := Tryz.isAgg9
  z26 := Tryz.sizeOf9
  v26 := Tryz.zeroValue9
  t27 := Tryz.underlying88
  a27 := Tryz.isAgg88
  z27 := Tryz.sizeOf88
  v27 := Tryz.zeroValue88
  t28 := Tryz.underlying89
  a28 := Tryz.isAgg89
  z28 := Tryz.sizeOf89
  v28 := Tryz.zeroValue89
  t33 := Tryz.underlying58
  a33 := Tryz.isAgg58
  z33 := Tryz.sizeOf58
  v33 := Tryz.zeroValue58 }
def Tryz.sorted37_ren : Go.Shelf.Ren := ⟨fun | 6 => 37 | 8 => 63 | 9 => 49 | 11 => 95 | 13 => 84 | 12 => 83 | 23 => 133 | 24 => 134 | 14 => 124 | 15 => 125 | 16 => 126 | 17 => 127 | 18 => 128 | 19 => 129 | 20 => 130 | 21 => 131 | 22 => 132 | 25 => 173 | 26 => 174 | 27 => 175 | 28 => 176 | 29 => 177 | 30 => 178 | 31 => 192 | n => n, fun | 26 => 9 | 28 => 89 | 24 => 59 | 0 => 0 | 3 => 3 | 37 => 78 | 48 => 185 | 50 => 187 | 4 => 4 | 40 => 179 | 39 => 178 | 45 => 104 | 5 => 5 | 9 => 9 | 51 => 212 | 55 => 216 | 57 => 232 | 58 => 166 | 33 => 58 | n => n, fun | n => n⟩
theorem Tryz.sorted37 : Go.Proofs.SlLaysZ.n6 Tryz.prog Tryz.sorted37_ren := {
  mixed := by kernel_rfl
  f6 := ⟨Tryz.f37.name, by decide, Tryz.func37.trans (congrArg some (by kernel_rfl))⟩
  f8 := ⟨Tryz.f63.name, by decide, Tryz.func63.trans (congrArg some (by kernel_rfl))⟩
  f11 := ⟨Tryz.f95.name, by decide, Tryz.func95.trans (congrArg some (by kernel_rfl))⟩
  t0 := Tryz.underlying0
  a0 := Tryz.isAgg0
  z0 := Tryz.sizeOf0
  v0 := Tryz.zeroValue0
  t24 := Tryz.underlying59
  a24 := Tryz.isAgg59
  z24 := Tryz.sizeOf59
  v24 := Tryz.zeroValue59
  t26 := Tryz.underlying9
  a26 := Tryz.isAgg9
  z26 := Tryz.sizeOf9
  v26 := Tryz.zeroValue9
  t28 := Tryz.underlying89
  a28 := Tryz.isAgg89
  z28 := Tryz.sizeOf89
  v28 := Tryz.zeroValue89
  i26 := by kernel_rfl }
def Tryz.sort49_ren : Go.Shelf.Ren := ⟨fun | 6 => 49 | 8 => 84 | 9 => 83 | 19 => 133 | 20 => 134 | 21 => 124 | 22 => 125 | 23 => 126 | 24 => 127 | 25 => 128 | 26 => 129 | 27 => 130 | 28 => 131 | 29 => 132 | 36 => 173 | 31 => 174 | 32 => 175 | 37 => 176 | 38 => 177 | 39 => 178 | 41 => 192 | n => n, fun | 27 => 59 | 29 => 9 | 3 => 3 | 32 => 78 | 26 => 59 | 0 => 0 | 44 => 185 | 46 => 187 | 4 => 4 | 36 => 179 | 35 => 178 | 41 => 104 | 5 => 5 | 9 => 9 | 53 => 212 | 57 => 216 | 63 => 232 | 64 => 166 | n => n, fun | n => n⟩
theorem Tryz.sort49 : Go.Proofs.SlLaysM.n6 Tryz.prog Tryz.sort49_ren := {
  mixed := by kernel_rfl
  f6 := ⟨Tryz.f49.name, by decide, Tryz.func49.trans (congrArg some (by kernel_rfl))⟩
  f8 := Tryz.func84.trans (congrArg some (by kernel_rfl))
  f9 := ⟨Tryz.f83.name, by decide, Tryz.func83.trans (congrArg some (by kernel_rfl))⟩
  f19 := Tryz.func133.trans (congrArg some (by kernel_rfl))
  f20 := Tryz.func134.trans (congrArg some (by kernel_rfl))
  f21 := ⟨Tryz.f124.name, by decide, Tryz.func124.trans (congrArg some (by kernel_rfl))⟩
  f22 := ⟨Tryz.f125.name, by decide, Tryz.func125.trans (congrArg some (by kernel_rfl))⟩
  f23 := ⟨Tryz.f126.name, by decide, Tryz.func126.trans (congrArg some (by kernel_rfl))⟩
  f24 := ⟨Tryz.f127.name, by decide, Tryz.func127.trans (congrArg some (by kernel_rfl))⟩
  f25 := ⟨Tryz.f128.name, by decide, Tryz.func128.trans (congrArg some (by kernel_rfl))⟩
  f26 := ⟨Tryz.f129.name, by decide, Tryz.func129.trans (congrArg some (by kernel_rfl))⟩
  f27 := ⟨Tryz.f130.name, by decide, Tryz.func130.trans (congrArg some (by kernel_rfl))⟩
  f28 := ⟨Tryz.f131.name, by decide, Tryz.func131.trans (congrArg some (by kernel_rfl))⟩
  f29 := ⟨Tryz.f132.name, by decide, Tryz.func132.trans (congrArg some (by kernel_rfl))⟩
  f31 := Tryz.func174.trans (congrArg some (by kernel_rfl))
  f32 := Tryz.func175.trans (congrArg some (by kernel_rfl))
  f36 := ⟨Tryz.f173.name, by decide, Tryz.func173.trans (congrArg some (by kernel_rfl))⟩
  f37 := ⟨Tryz.f176.name, by decide, Tryz.func176.trans (congrArg some (by kernel_rfl))⟩
  f38 := ⟨Tryz.f177.name, by decide, Tryz.func177.trans (congrArg some (by kernel_rfl))⟩
  f39 := ⟨Tryz.f178.name, by decide, Tryz.func178.trans (congrArg some (by kernel_rfl))⟩
  f41 := ⟨Tryz.f192.name, by decide, Tryz.func192.trans (congrArg some (by kernel_rfl))⟩
  t0 := Tryz.underlying0
  a0 := Tryz.isAgg0
  z0 := Tryz.sizeOf0
  v0 := Tryz.zeroValue0
  t3 := Tryz.underlying3
  a3 := Tryz.isAgg3
  z3 := Tryz.sizeOf3
  v3 := Tryz.zeroValue3
  t4 := Tryz.underlying4
  a4 := Tryz.isAgg4
  z4 := Tryz.sizeOf4
  v4 := Tryz.zeroValue4
  t5 := Tryz.underlying5
  a5 := Tryz.isAgg5
  z5 := Tryz.sizeOf5
  v5 := Tryz.zeroValue5
  t9 := Tryz.underlying9
  a9 := Tryz.isAgg9
  z9 := Tryz.sizeOf9
  v9 := Tryz.zeroValue9
  t26 := Tryz.underlying59
  a26 := Tryz.isAgg59
  z26 := Tryz.sizeOf59
  v26 := Tryz.zeroValue59
  t27 := Tryz.underlying59
  a27 := Tryz.isAgg59
  z27 := Tryz.sizeOf59
  v27 := Tryz.zeroValue59
  t29 := Tryz.underlying9
  a29 := Tryz.isAgg9
  z29 := Tryz.sizeOf9
  v29 := Tryz.zeroValue9
  t32 := Tryz.underlying78
  a32 := Tryz.isAgg78
  z32 := Tryz.sizeOf78
  v32 := Tryz.zeroValue78
  t35 := Tryz.underlying178
  a35 := Tryz.isAgg178
  z35 := Tryz.sizeOf178
  v35 := Tryz.zeroValue178
  t36 := Tryz.underlying179
  a36 := Tryz.isAgg179
  z36 := Tryz.sizeOf179
  v36 := Tryz.zeroValue179
  t41 := Tryz.underlying104
  a41 := Tryz.isAgg104
  z41 := Tryz.sizeOf104
  v41 := Tryz.zeroValue104
  t44 := Tryz.underlying185
  a44 := Tryz.isAgg185
  z44 := Tryz.sizeOf185
  v44 := Tryz.zeroValue185
  t46 := Tryz.underlying187
  a46 := Tryz.isAgg187
  z46 := Tryz.sizeOf187
  v46 := Tryz.zeroValue187
  t53 := Tryz.underlying212
  a53 := Tryz.isAgg212
  z53 := Tryz.sizeOf212
  v53 := Tryz.zeroValue212
  t57 := Tryz.underlying216
  a57 := Tryz.isAgg216
  z57 := Tryz.sizeOf216
  v57 := Tryz.zeroValue216
  t63 := Tryz.underlying232
  a63 := Tryz.isAgg232
  z63 := Tryz.sizeOf232
  v63 := Tryz.zeroValue232
  t64 := Tryz.underlying166
  a64 := Tryz.isAgg166
  z64 := Tryz.sizeOf166
  v64 := Tryz.zeroValue166 }
def Tryz.layHasPrefix_ren : Go.Shelf.Ren := ⟨fun | 99 => 82 | 206 => 123 | n => n, fun | 9 => 9 | 4 => 4 | 3 => 3 | n => n, fun | n => n⟩
theorem Tryz.layHasPrefix : Go.Proofs.Lays.n99 Tryz.prog Tryz.layHasPrefix_ren := {
  mixed := by kernel_rfl
  f99 := Tryz.func82.trans (congrArg some (by kernel_rfl))
  f206 := Tryz.func123.trans (congrArg some (by kernel_rfl))
  t3 := Tryz.underlying3
  a3 := Tryz.isAgg3
  z3 := Tryz.sizeOf3
  v3 := Tryz.zeroValue3
  t4 := Tryz.underlying4
  a4 := Tryz.isAgg4
  z4 := Tryz.sizeOf4
  v4 := Tryz.zeroValue4
  t9 := Tryz.underlying9
  a9 := Tryz.isAgg9
  z9 := Tryz.sizeOf9
  v9 := Tryz.zeroValue9 }
def Tryz.layFormatInt_ren : Go.Shelf.Ren := ⟨fun | 173 => 142 | 246 => 182 | 283 => 194 | 284 => 195 | 285 => 196 | 286 => 197 | 129 => 134 | 317 => 208 | 318 => 209 | 319 => 210 | 320 => 211 | 337 => 215 | 338 => 216 | n => n, fun | 2 => 2 | 3 => 3 | 9 => 9 | 4 => 4 | 171 => 234 | 0 => 0 | 53 => 187 | 37 => 140 | 5 => 5 | 173 => 236 | 212 => 252 | 51 => 185 | 20 => 20 | 213 => 253 | 46 => 78 | 232 => 259 | 233 => 260 | n => n, fun | 17 => 3 | 18 => 4 | 19 => 5 | n => n⟩
theorem Tryz.layFormatInt : Go.Proofs.LaysM.n173 Tryz.prog Tryz.layFormatInt_ren := {
  mixed := by kernel_rfl
  f129 := Tryz.func134.trans (congrArg some (by kernel_rfl))
  f173 := Tryz.func142.trans (congrArg some (by kernel_rfl))
  f246 := Tryz.func182.trans (congrArg some (by kernel_rfl))
  f283 := Tryz.func194.trans (congrArg some (by kernel_rfl))
  f284 := Tryz.func195.trans (congrArg some (by kernel_rfl))
  f285 := Tryz.func196.trans (congrArg some (by kernel_rfl))
  f286 := Tryz.func197.trans (congrArg some (by kernel_rfl))
  f317 := Tryz.func208.trans (congrArg some (by kernel_rfl))
  f318 := Tryz.func209.trans (congrArg some (by kernel_rfl))
  f319 := Tryz.func210.trans (congrArg some (by kernel_rfl))
  f320 := Tryz.func211.trans (congrArg some (by kernel_rfl))
  f337 := Tryz.func215.trans (congrArg some (by kernel_rfl))
  f338 := Tryz.func216.trans (congrArg some (by kernel_rfl))
  t0 := Tryz.underlying0
  a0 := Tryz.isAgg0
  z0 := Tryz.sizeOf0
  v0 := Tryz.zeroValue0
  t2 := Tryz.underlying2
  a2 := Tryz.isAgg2
  z2 := Tryz.sizeOf2
  v2 := Tryz.zeroValue2
  t3 := Tryz.underlying3
  a3 := Tryz.isAgg3
  z3 := Tryz.sizeOf3
  v3 := Tryz.zeroValue3
  t4 := Tryz.underlying4
  a4 := Tryz.isAgg4
  z4 := Tryz.sizeOf4
  v4 := Tryz.zeroValue4
  t5 := Tryz.underlying5
  a5 := Tryz.isAgg5
  z5 := Tryz.sizeOf5
  v5 := Tryz.zeroValue5
  t9 := Tryz.underlying9
  a9 := Tryz.isAgg9
  z9 := Tryz.sizeOf9
  v9 := Tryz.zeroValue9
  t20 := Tryz.underlying20
  a20 := Tryz.isAgg20
  z20 := Tryz.sizeOf20
  v20 := Tryz.zeroValue20
  t37 := Tryz.underlying140
  a37 := Tryz.isAgg140
  z37 := Tryz.sizeOf140
  v37 := Tryz.zeroValue140
  t46 := Tryz.underlying78
  a46 := Tryz.isAgg78
  z46 := Tryz.sizeOf78
  v46 := Tryz.zeroValue78
  t51 := Tryz.underlying185
  a51 := Tryz.isAgg185
  z51 := Tryz.sizeOf185
  v51 := Tryz.zeroValue185
  t53 := Tryz.underlying187
  a53 := Tryz.isAgg187
  z53 := Tryz.sizeOf187
  v53 := Tryz.zeroValue187
  t171 := Tryz.underlying234
  a171 := Tryz.isAgg234
  z171 := Tryz.sizeOf234
  v171 := Tryz.zeroValue234
  t173 := Tryz.underlying236
  a173 := Tryz.isAgg236
  z173 := Tryz.sizeOf236
  v173 := Tryz.zeroValue236
  t212 := Tryz.underlying252
  a212 := Tryz.isAgg252
  z212 := Tryz.sizeOf252
  v212 := Tryz.zeroValue252
  t213 := Tryz.underlying253
  a213 := Tryz.isAgg253
  z213 := Tryz.sizeOf253
  t232 := Tryz.underlying259
  a232 := Tryz.isAgg259
  z232 := Tryz.sizeOf259
  v232 := Tryz.zeroValue259
  t233 := Tryz.underlying260
  a233 := Tryz.isAgg260
  z233 := Tryz.sizeOf260
  v233 := Tryz.zeroValue260
  g17 := by kernel_rfl
  g18 := by kernel_rfl
  g19 := by kernel_rfl
  i0 := by kernel_rfl
  i2 := by kernel_rfl
  i3 := by kernel_rfl
  i4 := by kernel_rfl
  i5 := by kernel_rfl
  i9 := by kernel_rfl
  i20 := by kernel_rfl
  i37 := by kernel_rfl
  i46 := by kernel_rfl
  i51 := by kernel_rfl
  i53 := by kernel_rfl
  i171 := by kernel_rfl
  i173 := by kernel_rfl
  i212 := by kernel_rfl
  i232 := by kernel_rfl
  i233 := by kernel_rfl
  m17 := by kernel_rfl
  m18 := by kernel_rfl
  m19 := by kernel_rfl }
def Tryz.layValid_ren : Go.Shelf.Ren := ⟨fun | 196 => 136 | 259 => 179 | n => n, fun | 9 => 9 | 4 => 4 | 3 => 3 | 5 => 5 | 12 => 12 | 119 => 219 | 0 => 0 | 46 => 78 | 139 => 222 | 138 => 221 | 53 => 187 | n => n, fun | 3 => 0 | 4 => 1 | n => n⟩
theorem Tryz.layValid : Go.Proofs.Lays.n196 Tryz.prog Tryz.layValid_ren := {
  mixed := by kernel_rfl
  f196 := Tryz.func136.trans (congrArg some (by kernel_rfl))
  f259 := Tryz.func179.trans (congrArg some (by kernel_rfl))
  t0 := Tryz.underlying0
  a0 := Tryz.isAgg0
  z0 := Tryz.sizeOf0
  v0 := Tryz.zeroValue0
  t3 := Tryz.underlying3
  a3 := Tryz.isAgg3
  z3 := Tryz.sizeOf3
  v3 := Tryz.zeroValue3
  t4 := Tryz.underlying4
  a4 := Tryz.isAgg4
  z4 := Tryz.sizeOf4
  v4 := Tryz.zeroValue4
  t5 := Tryz.underlying5
  a5 := Tryz.isAgg5
  z5 := Tryz.sizeOf5
  v5 := Tryz.zeroValue5
  t9 := Tryz.underlying9
  a9 := Tryz.isAgg9
  z9 := Tryz.sizeOf9
  v9 := Tryz.zeroValue9
  t12 := Tryz.underlying12
  a12 := Tryz.isAgg12
  z12 := Tryz.sizeOf12
  v12 := Tryz.zeroValue12
  t46 := Tryz.underlying78
  a46 := Tryz.isAgg78
  z46 := Tryz.sizeOf78
  v46 := Tryz.zeroValue78
  t53 := Tryz.underlying187
  a53 := Tryz.isAgg187
  z53 := Tryz.sizeOf187
  v53 := Tryz.zeroValue187
  t119 := Tryz.underlying219
  a119 := Tryz.isAgg219
  z119 := Tryz.sizeOf219
  t138 := Tryz.underlying221
  a138 := Tryz.isAgg221
  z138 := Tryz.sizeOf221
  v138 := Tryz.zeroValue221
  t139 := Tryz.underlying222
  a139 := Tryz.isAgg222
  z139 := Tryz.sizeOf222
  v139 := Tryz.zeroValue222
  g3 := by kernel_rfl
  g4 := by kernel_rfl }
def Tryz.layFormatBool_ren : Go.Shelf.Ren := ⟨fun | 121 => 140 | 214 => 181 | n => n, fun | 4 => 4 | 9 => 9 | n => n, fun | n => n⟩
theorem Tryz.layFormatBool : Go.Proofs.Lays.n121 Tryz.prog Tryz.layFormatBool_ren := {
  mixed := by kernel_rfl
  f121 := Tryz.func140.trans (congrArg some (by kernel_rfl))
  f214 := Tryz.func181.trans (congrArg some (by kernel_rfl))
  t4 := Tryz.underlying4
  a4 := Tryz.isAgg4
  z4 := Tryz.sizeOf4
  v4 := Tryz.zeroValue4
  t9 := Tryz.underlying9
  a9 := Tryz.isAgg9
  z9 := Tryz.sizeOf9
  v9 := Tryz.zeroValue9 }
theorem Tryz.sorts37 (m : Nat) : AnyZ.SortsIn Tryz.prog Tryz.sorted37_ren Fence.wide m :=
  ⟨fun blk off cap ss W hH hblk hsz => callsIn_wide.2 (AnyM.slices_Sort_string Tryz.sort49 blk off cap ss W hH hblk hsz),
   fun p cap W => callsIn_wide.2 (AnyM.slices_Sort_string_none Tryz.sort49 p cap W)⟩
theorem Tryz.maps_Keys_38 (mb : Option Nat) (W : World) : CallsIn Fence.wide 5 Tryz.prog 38 #[.map mb] W fun e w' => e = .returned (.func (.func 64) #[] #[.pointer (some ⟨W.heap.size, 0, none⟩)]) ∧ w' = W.alloc (.cells #[.map mb] 26) :=
  AnyZ.keys_in Tryz.keys38 Fence.wide 5 trivial rfl mb W
theorem Tryz.slices_Sorted_keys_37_38 {H : Type} (b nn : Nat) (D0 : DataW H) (R : Value → Option (DataW H × List MemPlace)) (w : World) (hown : w.ownsMap Tryz.prog 9 R b nn D0) (hmax : Maps.size D0 ≤ maxLen) (hbytes : Maps.size D0 * 16 ≤ 140737488355328) :
    CallsIn Fence.wide 5 Tryz.prog 37 #[.func (.func 64) #[] #[.pointer (some ⟨w.heap.size, 0, none⟩)]] (w.alloc (.cells #[.map (some b)] 26)) fun e w' => ∃ (v : Value) (ss : List (List UInt8)), e = .returned v ∧ ss.Perm (strKeys D0) ∧
      w'.ownsRow (w.alloc (.cells #[.map (some b)] 26)).heap.size 9 1 v ss.length ((ss.mergeSort (fun x y => decide (x ≤ y))).map encStr) ∧ (v = .slice none 0 0 ↔ ss = []) ∧ Below (w.alloc (.cells #[.map (some b)] 26)).heap.size (w.alloc (.cells #[.map (some b)] 26)) w' := by
  have hbl := hown.lt
  have hseq : SeqGives Fence.wide 2 Tryz.prog 64 #[.pointer (some ⟨w.heap.size, 0, none⟩)] encStr (fun ss => ss.Perm (strKeys D0)) (Maps.size D0) (w.alloc (.cells #[.map (some b)] 26)) :=
    AnyZ.keys_gives (ρ := Tryz.keys38_ren) { Tryz.keys38 with } Fence.wide _ trivial rfl (by omega) w.heap.size b nn D0 _ (by simp) (by simp) (by
      obtain ⟨es, clock, hb, Ft, hs, hD⟩ := hown
      exact ⟨es, clock, (Below.heap_alloc _ _ b hbl).trans hb, Ft, hs, hD⟩)
  exact AnyZ.sorted_in Tryz.sorted37 Fence.wide 5 trivial trivial trivial trivial rfl (by omega) (Tryz.sorts37 _) (enters_of Tryz.func49 (by kernel_rfl) rfl) 64 #[.pointer (some ⟨w.heap.size, 0, none⟩)] trivial (enters_of Tryz.func64 (by kernel_rfl) rfl) _ _ hmax hbytes _ hseq
theorem Tryz.slices_Sorted_keys_nil_37_38 (w : World) :
    CallsIn Fence.wide 5 Tryz.prog 37 #[.func (.func 64) #[] #[.pointer (some ⟨w.heap.size, 0, none⟩)]] (w.alloc (.cells #[.map none] 26)) fun e w' => ∃ (v : Value) (ss : List (List UInt8)), e = .returned v ∧ ss = [] ∧
      w'.ownsRow (w.alloc (.cells #[.map none] 26)).heap.size 9 1 v ss.length ((ss.mergeSort (fun x y => decide (x ≤ y))).map encStr) ∧ (v = .slice none 0 0 ↔ ss = []) ∧ Below (w.alloc (.cells #[.map none] 26)).heap.size (w.alloc (.cells #[.map none] 26)) w' := by
  have hseq : SeqGives Fence.wide 2 Tryz.prog 64 #[.pointer (some ⟨w.heap.size, 0, none⟩)] encStr (fun ss : List (List UInt8) => ss = []) 0 (w.alloc (.cells #[.map none] 26)) :=
    AnyZ.keys_gives_nil (ρ := Tryz.keys38_ren) { Tryz.keys38 with } Fence.wide _ trivial rfl w.heap.size _ (by simp) (by simp)
  exact AnyZ.sorted_in Tryz.sorted37 Fence.wide 5 trivial trivial trivial trivial rfl (by omega) (Tryz.sorts37 _) (enters_of Tryz.func49 (by kernel_rfl) rfl) 64 #[.pointer (some ⟨w.heap.size, 0, none⟩)] trivial (enters_of Tryz.func64 (by kernel_rfl) rfl) _ 0 (Nat.zero_le _) (by omega) _ hseq
end Go.Proofs.YtechahocffcbpaaGreatDoor
namespace Go.Proofs.YtechahocffcbpaaGreatDoor
open Go.RowKit Go.Maps Go.Shelf
set_option linter.unusedVariables false
set_option linter.unusedSimpArgs false
abbrev numV (n : Int) : Val := .mk 3 false n ByteArray.empty [] [] []
abbrev numA (n : Int) : Value := .agg #[.int .i64 3, .bool false, .int .i64 n, .string ByteArray.empty, .slice none 0 0, .slice none 0 0]
theorem odd_int (w : World) (n : Int) : Calls Tryz.prog 137 #[numA n] w fun e w' => e = .returned (.bool false) ∧ Ext w w' := by
  go_enter Tryz.func137, Tryz.ntmps137
  go_wp2_with fail
  all_goals
    go_ret
    exact ⟨rfl, (Ext.refl w).alloc _ _⟩
theorem may_int (w : World) (n : Int) {j : Nat} (hj : j ≤ 64) : Calls Tryz.prog 93 #[numA n, .int .i64 (j : Int)] w fun e w' => e = .returned (.int .i64 0) ∧ Ext w w' := by
  have ho := fun W => odd_int W n
  have g0 : decide ((64 : Int) < (j : Int)) = false := decide_eq_false (by omega)
  have HO := Lib.hid ho
  clear ho
  go_enter Tryz.func93, Tryz.ntmps93
  go_wp2_with fail
  have hx0 := (Ext.refl w).alloc #[.int .i64 3, .bool false, .int .i64 n, .string ByteArray.empty, .slice none 0 0, .slice none 0 0] 34
  have hb0 := Blk.new w 34 #[.int .i64 3, .bool false, .int .i64 n, .string ByteArray.empty, .slice none 0 0, .slice none 0 0]
  refine (HO.out _).mono ?_
  rintro e w1 ⟨rfl, hx1⟩
  obtain ⟨q0, q1, q2, q3, q4, q5⟩ := (hb0.ext hx1).c6
  have HX := Lib.hid (hx0.trans hx1)
  clear hx0 hx1 hb0
  go_wp2_with fail
  go_ret
  exact ⟨rfl, HX.out⟩
theorem mayV_int (w : World) (n : Int) : Calls Tryz.prog 59 #[numA n] w fun e w' => e = .returned (.int .i64 0) ∧ Ext w w' := by
  have ho := fun W => may_int W n (j := 1) (by omega)
  have HO := Lib.hid ho
  clear ho
  go_enter Tryz.func59, Tryz.ntmps59
  go_wp2_with fail
  have hx0 := (Ext.refl w).alloc #[.int .i64 3, .bool false, .int .i64 n, .string ByteArray.empty, .slice none 0 0, .slice none 0 0] 34
  refine (HO.out _).mono ?_
  rintro e w1 ⟨rfl, hx1⟩
  have HX := Lib.hid (hx0.trans hx1)
  clear hx0 hx1
  go_wp2_with fail
  go_ret
  exact ⟨rfl, HX.out⟩
theorem deep_int (w : World) (n : Int) : Calls Tryz.prog 60 #[numA n] w fun e w' => e = .returned (.int .i64 1) ∧ Ext w w' := by
  go_enter Tryz.func60, Tryz.ntmps60
  go_wp2_with fail
  go_ret
  exact ⟨rfl, (Ext.refl w).alloc _ _⟩
def sumS (ks : List ByteArray) : Nat := (ks.map ByteArray.size).sum
theorem sumS_take {ks : List ByteArray} {j : Nat} {k : ByteArray} (h : ks[j]? = some k) : sumS (ks.take (j + 1)) = sumS (ks.take j) + k.size := by
  obtain ⟨hj, rfl⟩ := List.getElem?_eq_some_iff.1 h
  unfold sumS
  rw [List.take_succ_eq_append_getElem hj, List.map_append, List.sum_append]; simp
theorem sumS_le (ks : List ByteArray) (j : Nat) : sumS (ks.take j) ≤ sumS ks := by
  have : sumS ks = sumS (ks.take j) + sumS (ks.drop j) := by unfold sumS; rw [← List.sum_append, ← List.map_append, List.take_append_drop]
  omega
abbrev wrC (a b : Value) (n : Nat) : Array Value := #[.bool false, a, b, .int .i64 (n : Int)]
theorem join_any {w : World} {B : Nat} {a b : Value} {n : Nat} {F : Nat → Prop} {s : Sl} {ks : List ByteArray} (hB : Blk w B 144 (wrC a b n)) (hr : Rd w F 1 s ks.length (ks.map .string)) (hF : ∀ i, F i → i < w.heap.size ∧ i ≠ B) (hn : n + sumS ks ≤ 100000000) (hkl : ks.length ≤ 1000000) :
    Calls Tryz.prog 139 #[.pointer (some ⟨B, 0, none⟩), .slice s.a ks.length s.c] w fun e w' => (∃ r, e = .returned r) ∧ Blk w' B 144 (wrC a b (n + sumS ks)) ∧ St (fun c => c = B) w w' := by
  obtain ⟨g, o, h1, -, h3⟩ := hr
  have H1 := Lib.hid h1
  have H3 := Lib.hid h3
  have HF := Lib.hid hF
  have HB := Lib.hid hB
  clear h1 h3 hF hB
  go_enter Tryz.func139, Tryz.ntmps139
  go_wp2_with fail
  go_loopw [8] (fun q wr => ∃ j : Nat, q = .int .i64 (j : Int) ∧ j ≤ ks.length ∧ Blk wr B 144 (wrC a b (n + sumS (ks.take j))) ∧ St (fun c => c = B) w wr) (fun q _ => ks.length - (intOf q).toNat)
  case atStart => exact ⟨0, rfl, Nat.zero_le _, by simpa [sumS] using HB.out, St.refl _ _⟩
  case round =>
    obtain ⟨j, rfl, hjl, hb, hst⟩ := hrel
    by_cases hlt : j < ks.length
    · have g1 : decide ((j : Int) < (ks.length : Int)) = true := decide_eq_true (by omega)
      have g1' : (j : Int) < (ks.length : Int) := by omega
      obtain ⟨k, hk⟩ : ∃ k, ks[j]? = some k := ⟨_, List.getElem?_eq_getElem hlt⟩
      obtain ⟨e1, hc, hcm⟩ := H1.out.eq (by omega)
      have lg := HF.out g (H1.out.fits (by omega))
      obtain ⟨sa, sc⟩ := s
      dsimp only at e1 hc hcm
      subst e1
      have c0 : wr.cell? ⟨g, o + j, none⟩ = some (.string k) := (hst.cell lg.1 lg.2).trans (H3.out j _ (by rw [List.getElem?_map, hk]; rfl))
      have c3 : wr.cell? ⟨B, 3, none⟩ = some (.int .i64 ((n + sumS (ks.take j) : Nat) : Int)) := hb.cell 3
      have ck : wr.cell? ⟨B, 0, none⟩ = some (.bool false) := hb.cell 0
      have f3 := hb.frozen 3
      have lB := hb.lt
      have hsum := sumS_take hk
      have hle := sumS_le ks (j + 1)
      obtain ⟨m, hm⟩ : ∃ m, n + sumS (ks.take j) = m := ⟨_, rfl⟩
      have hm2 : n + sumS (ks.take (j + 1)) = m + k.size := by omega
      rw [hm] at c3 hb
      have g2 : IntKind.i64.wrap ((m : Int) + (k.size : Int)) = (m : Int) + (k.size : Int) := by rw [IntKind.wrap_i64]; omega
      have HBL := Lib.hid hb
      have HST := Lib.hid hst
      have HM2 := Lib.hid hm2
      clear hb hst hk hsum hle hm hm2
      go_wp2_with fail
      have hset : St (fun c => c = B) wr (wr.setCell ⟨B, 3, none⟩ (.int .i64 ((m : Int) + (k.size : Int)))) := (St.refl (fun c => c = B) wr).set (p := ⟨B, 3, none⟩) (.inr rfl) _
      have hbs := HBL.out.set_ 3 (.int .i64 ((m : Int) + (k.size : Int)))
      exact ⟨⟨j + 1, rfl, hlt, by rw [HM2.out]; exact hbs, HST.out.trans hset⟩, by show ks.length - ((j : Int) + 1).toNat < ks.length - (j : Int).toNat; omega⟩
    · obtain rfl : j = ks.length := by omega
      have g1 : decide ((ks.length : Int) < (ks.length : Int)) = false := decide_eq_false (by omega)
      rw [List.take_length] at hb
      go_wp2_with fail
      go_end0
      exact ⟨⟨_, rfl⟩, hb, hst⟩
def FmtOK (n : Int) (W : World) : Prop := Calls Tryz.prog 142 #[.int .i64 n, .int .i64 10] W fun e w' => ∃ s : ByteArray, e = .returned (.string s) ∧ s.size ≤ 21 ∧ Nw W w'
theorem own2_int {w : World} {V B : Nat} {a b : Value} {n : Int} {m : Nat} (hV : Blk w V 34 #[.int .i64 3, .bool false, .int .i64 n, .string ByteArray.empty, .slice none 0 0, .slice none 0 0]) (hB : Blk w B 144 (wrC a b m)) (hVB : V ≠ B) (hm : m ≤ 10000000) (hf : ∀ W, Nw w W → FmtOK n W) :
    Calls Tryz.prog 141 #[.pointer (some ⟨B, 0, none⟩), .pointer (some ⟨V, 0, none⟩)] w fun e w' => (∃ r, e = .returned r) ∧ (∃ k, k ≤ 21 ∧ Blk w' B 144 (wrC a b (m + k))) ∧ Sb (fun c => c = B) w w' := by
  have c2 : w.cell? ⟨V, 2, none⟩ = some (.int .i64 n) := hV.cell 2
  have HF := Lib.hid hf
  have HB := Lib.hid hB
  clear hV hB hf
  go_enter Tryz.func141, Tryz.ntmps141
  go_wp2_with fail
  refine (HF.out _ (Sb.refl _ w)).mono ?_
  rintro e w1 ⟨s, rfl, hs, hn1⟩
  have hx2 : Ext w1 (w1.alloc (.cells #[.string s] 9)) := (Ext.refl w1).alloc _ _
  have hb2 := (hn1.blk HB.out).ext hx2
  have hl1 := (hn1.blk HB.out).lt
  have hj := join_any (s := ⟨some ⟨w1.heap.size, 0, none⟩, 1⟩) (ks := [s]) hb2 (Rd.block (Blk.new w1 9 #[.string s]) (by decide) rfl) (fun i hi => by subst hi; exact ⟨by simp, by omega⟩) (by simp [sumS]; omega) (by simp)
  have HJ := Lib.hid hj
  have HN := Lib.hid (hn1.trans (Nw.of hx2))
  have HS := Lib.hid hs
  clear hj hn1 hx2 hb2 hs
  go_wp2_with fail
  refine HJ.out.mono ?_
  rintro e w3 ⟨⟨r, rfl⟩, hb3, hst3⟩
  have HB3 := Lib.hid hb3
  have HS3 := Lib.hid hst3
  clear hb3 hst3
  go_wp2_with fail
  go_end0
  exact ⟨⟨_, rfl⟩, ⟨s.size, HS.out, by have := HB3.out; simpa [sumS] using this⟩, (Nw.any HN.out _).trans HS3.out.sb⟩
theorem own_int (w : World) (n : Int) : Calls Tryz.prog 94 #[numA n] w fun e w' => e = .returned (.func (.func 141) #[] #[.pointer (some ⟨w.heap.size, 0, none⟩)]) ∧ Ext w w' ∧ Blk w' w.heap.size 34 #[.int .i64 3, .bool false, .int .i64 n, .string ByteArray.empty, .slice none 0 0, .slice none 0 0] := by
  go_enter Tryz.func94, Tryz.ntmps94
  go_wp2_with fail
  go_ret
  exact ⟨rfl, (Ext.refl w).alloc _ _, Blk.new w _ _⟩
theorem bytes_int (w : World) (n : Int) (hf : ∀ W, Nw w W → FmtOK n W) : Calls Tryz.prog 61 #[numA n] w fun e w' => ∃ k : Nat, k ≤ 21 ∧ e = .returned (.int .i64 (k : Int)) ∧ Nw w w' := by
  have ho := fun W => own_int W n
  have HF := Lib.hid hf
  have HO := Lib.hid ho
  clear hf ho
  go_enter Tryz.func61, Tryz.ntmps61
  go_wp2_with fail
  generalize hW0 : World.alloc _ _ = W0
  obtain ⟨hx0, hz0, hb0, hb1⟩ := two_blocks w _ _ _ _ W0 hW0
  have HX0 := Lib.hid hx0
  have HB1 := Lib.hid hb1
  have HZ := Lib.hid hz0
  clear hW0 hx0 hb0 hb1 hz0
  refine (HO.out W0).mono ?_
  rintro e w1 ⟨rfl, hx1, hbv⟩
  have hw1 := HB1.out.ext hx1
  have hn1 := (Nw.of HX0.out).trans (Nw.of hx1)
  have hc := own2_int (m := 0) hbv hw1 (by have := HB1.out.lt; omega) (Nat.zero_le _) (fun W hW => HF.out W (hn1.trans hW))
  have HC := Lib.hid hc
  have HN1 := Lib.hid hn1
  clear hx1 hbv hw1 hn1 hc
  go_wp2_with fail
  refine HC.out.mono ?_
  rintro e w2 ⟨⟨r, rfl⟩, ⟨k, hk, hb⟩, hs⟩
  have c3 : w2.cell? ⟨w.heap.size + 1, 3, none⟩ = some (.int .i64 ((0 + k : Nat) : Int)) := hb.cell 3
  rw [Nat.zero_add] at c3
  have HN2 := Lib.hid (((Nw.any HN1.out (fun b => w.heap.size ≤ b)).trans (hs.mono fun i _ e => by omega)).mono (G := fun _ => False) fun i hi e => by omega)
  have HK := Lib.hid hk
  clear hb hs hk
  go_wp2_with fail
  go_ret
  exact ⟨k, HK.out, rfl, HN2.out⟩
theorem fits_int (w : World) (n : Int) (hf : ∀ W, Nw w W → FmtOK n W) : Calls Tryz.prog 34 #[numA n] w fun e w' => e = .returned (.int .i64 0) ∧ Nw w w' := by
  have hm := fun W => mayV_int W n
  have hd := fun W => deep_int W n
  have hb := fun W (hW : Nw w W) => bytes_int W n fun W' hW' => hf W' (hW.trans hW')
  have HM := Lib.hid hm
  have HD := Lib.hid hd
  have HB := Lib.hid hb
  clear hm hd hb hf
  go_enter Tryz.func34, Tryz.ntmps34
  go_wp2_with fail
  have hx0 := (Ext.refl w).alloc #[.int .i64 3, .bool false, .int .i64 n, .string ByteArray.empty, .slice none 0 0, .slice none 0 0] 34
  have hb0 := Blk.new w 34 #[.int .i64 3, .bool false, .int .i64 n, .string ByteArray.empty, .slice none 0 0, .slice none 0 0]
  refine (HM.out _).mono ?_
  rintro e w1 ⟨rfl, hx1⟩
  have hb1 := hb0.ext hx1
  obtain ⟨q0, q1, q2, q3, q4, q5⟩ := hb1.c6
  have HX1 := Lib.hid (hx0.trans hx1)
  have HB1 := Lib.hid hb1
  clear hx0 hb0 hx1 hb1
  go_wp2_with fail
  refine (HD.out _).mono ?_
  rintro e w2 ⟨rfl, hx2⟩
  have hb2 := HB1.out.ext hx2
  clear q0 q1 q2 q3 q4 q5
  obtain ⟨q0, q1, q2, q3, q4, q5⟩ := hb2.c6
  have HX2 := Lib.hid (HX1.out.trans hx2)
  clear hx2 hb2
  go_wp2_with fail
  refine (HB.out _ (Nw.of HX2.out)).mono ?_
  rintro e w3 ⟨k, hk, rfl, hn3⟩
  have g0 : decide ((1024 : Int) < (k : Int)) = false := decide_eq_false (by omega)
  have HN3 := Lib.hid ((Nw.of HX2.out).trans hn3)
  clear hn3 q0 q1 q2 q3 q4 q5
  go_wp2_with fail
  go_ret
  exact ⟨rfl, HN3.out⟩
theorem join_one {w : World} {B : Nat} {a b : Value} {m : Nat} (s : ByteArray) (hB : Blk w B 144 (wrC a b m)) (hm : m ≤ 10000000) (hs : s.size ≤ 1000) :
    Calls Tryz.prog 139 #[.pointer (some ⟨B, 0, none⟩), .slice (some ⟨w.heap.size, 0, none⟩) 1 1] (w.alloc (.cells #[.string s] 9)) fun e w' => (∃ r, e = .returned r) ∧ Blk w' B 144 (wrC a b (m + s.size)) ∧ Sb (fun c => c = B) w w' := by
  have hx : Ext w (w.alloc (.cells #[.string s] 9)) := (Ext.refl w).alloc _ _
  have hl := hB.lt
  have hj := join_any (s := ⟨some ⟨w.heap.size, 0, none⟩, 1⟩) (ks := [s]) (hB.ext hx) (Rd.block (Blk.new w 9 #[.string s]) (by decide) rfl) (fun i hi => by subst hi; exact ⟨by simp, by omega⟩) (by simp [sumS]; omega) (by simp)
  exact hj.mono fun e w' ⟨h1, h2, h3⟩ => ⟨h1, by simpa [sumS] using h2, (Nw.any (Nw.of hx) _).trans h3.sb⟩
def G5 (w W : World) : Prop := ∀ b, b < 6 → W.heap[b]? = w.heap[b]?
theorem G5.refl (w : World) : G5 w w := fun _ _ => rfl
theorem G5.trans {a b c : World} (h : G5 a b) (k : G5 b c) : G5 a c := fun i hi => (k i hi).trans (h i hi)
theorem Sb.g5 {H : Nat → Prop} {w w' : World} (h : Sb H w w') (hz : 6 ≤ w.heap.size) (hH : ∀ b, b < 6 → ¬ H b) : G5 w w' := fun b hb => h.block b (by omega) (hH b hb)
structure Lib0 (w : World) : Prop where
  big : 6 ≤ w.heap.size
  fmt : ∀ W, G5 w W → ∀ n : Int, -9223372036854775808 ≤ n → n ≤ 9223372036854775807 → FmtOK n W
  val : ∀ W, G5 w W → ∀ s : ByteArray, s.size ≤ maxLen → Calls Tryz.prog 136 #[.string s] W fun e w' => e = .returned (.bool (Lib.validD s.data.toList)) ∧ Nw W w'
theorem Lib0.sb {H : Nat → Prop} {w w' : World} (h : Lib0 w) (k : Sb H w w') (hH : ∀ b, b < 6 → ¬ H b) : Lib0 w' :=
  ⟨Nat.le_trans h.big k.size, fun W hW => h.fmt W ((k.g5 h.big hH).trans hW), fun W hW => h.val W ((k.g5 h.big hH).trans hW)⟩
theorem Lib0.nw {w w' : World} (h : Lib0 w) (k : Nw w w') : Lib0 w' := h.sb k fun _ _ e => e
def mayK (k : ByteArray) : Int := if k.size = 0 then 8 else if 64 < k.size then 6 else if Lib.validD k.data.toList then 0 else 3
theorem reason1 {w : World} {B : Nat} {k : ByteArray} (hB : Blk w B 9 #[.string k]) : Calls Tryz.prog 89 #[.pointer (some ⟨B, 0, none⟩)] w fun e w' => e = .returned (.bool (decide (k.size = 0))) ∧ w' = w := by
  have c0 : w.cell? ⟨B, 0, none⟩ = some (.string k) := hB.cell 0
  have hk : k.toList.isEmpty = decide (k.size = 0) := by
    rw [ByteArray.toList_eq]
    by_cases h : k.size = 0
    · have : k.data.toList = [] := List.eq_nil_of_length_eq_zero (by rw [Array.length_toList]; exact h)
      rw [this, decide_eq_true h]; rfl
    · rw [decide_eq_false h]
      cases hl : k.data.toList with
      | nil => exact absurd (by have := congrArg List.length hl; rw [Array.length_toList] at this; exact this) h
      | cons a l => rfl
  have HK := Lib.hid hk
  clear hk
  clear hB
  go_enter Tryz.func89, Tryz.ntmps89
  go_wp2_with fail
  go_ret
  exact ⟨by rw [← HK.out]; rfl, rfl⟩
theorem reason2 {w : World} {B : Nat} {k : ByteArray} (hB : Blk w B 9 #[.string k]) : Calls Tryz.prog 90 #[.pointer (some ⟨B, 0, none⟩)] w fun e w' => e = .returned (.bool (decide (64 < k.size))) ∧ w' = w := by
  have c0 : w.cell? ⟨B, 0, none⟩ = some (.string k) := hB.cell 0
  clear hB
  go_enter Tryz.func90, Tryz.ntmps90
  go_wp2_with fail
  go_ret
  exact ⟨by rw [show decide (64 < k.size) = decide ((64 : Int) < (k.size : Int)) from decide_eq_decide.2 (by omega)]; rfl, rfl⟩
theorem reason3 {w : World} {B : Nat} {k : ByteArray} (hB : Blk w B 9 #[.string k]) (hk : k.size ≤ maxLen) (hL : Lib0 w) : Calls Tryz.prog 91 #[.pointer (some ⟨B, 0, none⟩)] w fun e w' => e = .returned (.bool (!Lib.validD k.data.toList)) ∧ Nw w w' := by
  have c0 : w.cell? ⟨B, 0, none⟩ = some (.string k) := hB.cell 0
  have hu : ∀ W, G5 w W → Calls Tryz.prog 92 #[.string k] W fun e w' => e = .returned (.bool (Lib.validD k.data.toList)) ∧ Nw W w' := fun W hW => by
    have hv := hL.val W hW k hk
    have HV := Lib.hid hv
    clear hv hL hB c0 hW
    go_enter Tryz.func92, Tryz.ntmps92
    go_wp2_with fail
    refine HV.out.mono ?_
    rintro e w' ⟨rfl, hn⟩
    have HN := Lib.hid hn
    clear hn
    go_wp2_with fail
    go_ret
    exact ⟨rfl, HN.out⟩
  have HU := Lib.hid (hu w (G5.refl w))
  clear hB hL hu
  go_enter Tryz.func91, Tryz.ntmps91
  go_wp2_with fail
  refine HU.out.mono ?_
  rintro e w' ⟨rfl, hn⟩
  have HN := Lib.hid hn
  clear hn
  go_wp2_with fail
  go_ret
  exact ⟨rfl, HN.out⟩
abbrev reasonsC (B : Nat) : Array Value := #[.int .i64 8, .func (.func 89) #[] #[.pointer (some ⟨B, 0, none⟩)], .int .i64 6, .func (.func 90) #[] #[.pointer (some ⟨B, 0, none⟩)], .int .i64 3, .func (.func 91) #[] #[.pointer (some ⟨B, 0, none⟩)]]
theorem reasons_any (w : World) (k : ByteArray) : Calls Tryz.prog 58 #[.string k] w fun e w' => e = .returned (.slice (some ⟨w.heap.size + 1, 0, none⟩) 3 3) ∧ Ext w w' ∧ Blk w' w.heap.size 9 #[.string k] ∧ ∃ t, Blk w' (w.heap.size + 1) t (reasonsC w.heap.size) := by
  go_enter Tryz.func58, Tryz.ntmps58
  go_wp2_with fail
  go_ret
  generalize hW0 : World.alloc _ _ = W0
  obtain ⟨hx0, hz0, hb0, hb1⟩ := two_blocks w _ _ _ _ W0 hW0
  exact ⟨rfl, hx0, hb0, _, hb1⟩
theorem run_store_funcO (P : Program) (w : World) (a : Addr) (f : Fn) (ta lb : Array Value) (m : Mode) : (store a (.func f ta lb) m).run P w = stored P w a (.func f ta lb) m := run_store P w a _ m rfl
attribute [local go_sem] run_store_funcO
theorem keysMay_any {w : World} {k : ByteArray} (hk : k.size ≤ maxLen) (hL : Lib0 w) : Calls Tryz.prog 33 #[.string k] w fun e w' => e = .returned (.int .i64 (mayK k)) ∧ Nw w w' := by
  have hr := fun W => reasons_any W k
  have HR := Lib.hid hr
  have HL := Lib.hid hL
  clear hr hL
  go_enter Tryz.func33, Tryz.ntmps33
  go_wp2_with fail
  refine (HR.out w).mono ?_
  rintro e w1 ⟨rfl, hx1, hb0, t, hb1⟩
  have HX1 := Lib.hid hx1
  have HB0 := Lib.hid hb0
  have HB1 := Lib.hid hb1
  have HL1 := Lib.hid (HL.out.nw (Nw.of hx1))
  have l1 := hb1.lt
  clear hx1 hb0 hb1 HR
  go_wp2_with fail
  go_loopw [8] (fun q wr => ∃ j : Nat, q = .int .i64 (j : Int) ∧ j ≤ 3 ∧ (1 ≤ j → k.size ≠ 0) ∧ (2 ≤ j → k.size ≤ 64) ∧ (3 ≤ j → Lib.validD k.data.toList = true) ∧ Nw w1 wr) (fun q _ => 3 - (intOf q).toNat)
  case atStart => exact ⟨0, rfl, by omega, by omega, by omega, by omega, Sb.refl _ _⟩
  case round =>
    obtain ⟨j, rfl, hj, h1, h2, h3, hn⟩ := hrel
    have hb0 := hn.blk HB0.out
    have hb1 := Nw.blk hn HB1.out
    have c0 : wr.cell? ⟨w.heap.size + 1, 0, none⟩ = some (.int .i64 8) := hb1.cell 0
    have c1 : wr.cell? ⟨w.heap.size + 1, 1, none⟩ = some (.func (.func 89) #[] #[.pointer (some ⟨w.heap.size, 0, none⟩)]) := hb1.cell 1
    have c2 : wr.cell? ⟨w.heap.size + 1, 2, none⟩ = some (.int .i64 6) := hb1.cell 2
    have c3 : wr.cell? ⟨w.heap.size + 1, 3, none⟩ = some (.func (.func 90) #[] #[.pointer (some ⟨w.heap.size, 0, none⟩)]) := hb1.cell 3
    have c4 : wr.cell? ⟨w.heap.size + 1, 4, none⟩ = some (.int .i64 3) := hb1.cell 4
    have c5 : wr.cell? ⟨w.heap.size + 1, 5, none⟩ = some (.func (.func 91) #[] #[.pointer (some ⟨w.heap.size, 0, none⟩)]) := hb1.cell 5
    have HN := Lib.hid hn
    have HB := Lib.hid hb0
    clear hb0 hb1 hn
    rcases (by omega : j = 0 ∨ j = 1 ∨ j = 2 ∨ j = 3) with rfl | rfl | rfl | rfl
    · go_wp2_with fail
      have hx4 := (Ext.refl wr).alloc #[.int .i64 8, .func (.func 89) #[] #[.pointer (some ⟨w.heap.size, 0, none⟩)]] 114
      have hb4 := HB.out.ext hx4
      have hn4 := HN.out.trans (Nw.of hx4)
      have HN4 := Lib.hid hn4
      have HB4 := Lib.hid (Blk.new wr 114 #[.int .i64 8, .func (.func 89) #[] #[.pointer (some ⟨w.heap.size, 0, none⟩)]])
      clear hx4 hn4 c0 c1 c2 c3 c4 c5
      refine ((reason1 hb4).mono fun e w' h => (show e = _ ∧ Nw _ w' from ⟨h.1, by rw [h.2]; exact Sb.refl _ _⟩)).mono ?_
      rintro e w4 ⟨rfl, hn5⟩
      have hb5 := Nw.blk hn5 HB4.out
      have c0 : w4.cell? ⟨wr.heap.size, 0, none⟩ = some (.int .i64 8) := hb5.cell 0
      have HN5 := Lib.hid (HN4.out.trans hn5)
      clear hn5 hb5 hb4
      by_cases hc : k.size = 0
      · have g0 : decide (k.size = 0) = true := decide_eq_true hc
        rw [g0]
        go_wp2_with fail
        go_ret
        exact ⟨by rw [show mayK k = 8 by rw [mayK, if_pos hc]] <;> rfl, (Nw.of HX1.out).trans HN5.out⟩
      · have g0 : decide (k.size = 0) = false := decide_eq_false hc
        rw [g0]
        go_wp2_with fail
        exact ⟨⟨1, by go_num, by omega, fun _ => hc, by omega, by omega, HN5.out⟩, by simp [intOf]⟩
    · go_wp2_with fail
      have hx4 := (Ext.refl wr).alloc #[.int .i64 6, .func (.func 90) #[] #[.pointer (some ⟨w.heap.size, 0, none⟩)]] 114
      have hb4 := HB.out.ext hx4
      have hn4 := HN.out.trans (Nw.of hx4)
      have HN4 := Lib.hid hn4
      have HB4 := Lib.hid (Blk.new wr 114 #[.int .i64 6, .func (.func 90) #[] #[.pointer (some ⟨w.heap.size, 0, none⟩)]])
      clear hx4 hn4 c0 c1 c2 c3 c4 c5
      refine ((reason2 hb4).mono fun e w' h => (show e = _ ∧ Nw _ w' from ⟨h.1, by rw [h.2]; exact Sb.refl _ _⟩)).mono ?_
      rintro e w4 ⟨rfl, hn5⟩
      have hb5 := Nw.blk hn5 HB4.out
      have c0 : w4.cell? ⟨wr.heap.size, 0, none⟩ = some (.int .i64 6) := hb5.cell 0
      have HN5 := Lib.hid (HN4.out.trans hn5)
      clear hn5 hb5 hb4
      by_cases hc : 64 < k.size
      · have g0 : decide (64 < k.size) = true := decide_eq_true hc
        rw [g0]
        go_wp2_with fail
        go_ret
        exact ⟨by rw [show mayK k = 6 by rw [mayK, if_neg (h1 (by omega)), if_pos hc]] <;> rfl, (Nw.of HX1.out).trans HN5.out⟩
      · have g0 : decide (64 < k.size) = false := decide_eq_false hc
        rw [g0]
        go_wp2_with fail
        exact ⟨⟨2, by go_num, by omega, fun _ => h1 (by omega), fun _ => by omega, by omega, HN5.out⟩, by simp [intOf]⟩
    · go_wp2_with fail
      have hx4 := (Ext.refl wr).alloc #[.int .i64 3, .func (.func 91) #[] #[.pointer (some ⟨w.heap.size, 0, none⟩)]] 114
      have hb4 := HB.out.ext hx4
      have hn4 := HN.out.trans (Nw.of hx4)
      have HN4 := Lib.hid hn4
      have HB4 := Lib.hid (Blk.new wr 114 #[.int .i64 3, .func (.func 91) #[] #[.pointer (some ⟨w.heap.size, 0, none⟩)]])
      clear hx4 c0 c1 c2 c3 c4 c5
      refine (reason3 hb4 hk (HL1.out.nw hn4)).mono ?_
      rintro e w4 ⟨rfl, hn5⟩
      have hb5 := Nw.blk hn5 HB4.out
      have c0 : w4.cell? ⟨wr.heap.size, 0, none⟩ = some (.int .i64 3) := hb5.cell 0
      have HN5 := Lib.hid (HN4.out.trans hn5)
      clear hn5 hb5 hb4
      by_cases hc : Lib.validD k.data.toList = false
      · have g0 : (!Lib.validD k.data.toList) = true := by rw [hc]; rfl
        rw [g0]
        go_wp2_with fail
        go_ret
        exact ⟨by rw [show mayK k = 3 by rw [mayK, if_neg (h1 (by omega)), if_neg (by have := h2 (by omega); omega), if_neg (by rw [hc]; simp)]] <;> rfl, (Nw.of HX1.out).trans HN5.out⟩
      · have g0 : (!Lib.validD k.data.toList) = false := by rw [Bool.not_eq_false] at hc; rw [hc]; rfl
        rw [g0]
        go_wp2_with fail
        exact ⟨⟨3, by go_num, by omega, fun _ => h1 (by omega), fun _ => h2 (by omega), fun _ => by simpa using hc, HN5.out⟩, by simp [intOf]⟩
    · go_wp2_with fail
      go_ret
      exact ⟨by rw [show mayK k = 0 by rw [mayK, if_neg (h1 (by omega)), if_neg (by have := h2 (by omega); omega), if_pos (h3 (by omega))]]; rfl, (Nw.of HX1.out).trans HN.out⟩
end Go.Proofs.YtechahocffcbpaaGreatDoor
namespace Go.Proofs.YtechahocffcbpaaGreatDoor
open Go.RowKit Go.Maps Go.Shelf
set_option linter.unusedVariables false
set_option linter.unusedSimpArgs false
def oddS (k : Int) (b : Bool) (i : Int) (t : ByteArray) (ln on : Nat) : Bool :=
  if k < 1 ∨ 6 < k then true
  else (k != 2 && b) || (k != 3 && i != 0) || (k != 4 && t.size != 0) || (k != 5 && ln != 0) || (k != 6 && on != 0)
def oddV (v : Val) : Bool := oddS v.kind v.b v.i v.t v.l.length v.ok.length
theorem empty_text {t : ByteArray} (h : t.size = 0) : t.toList.isEmpty = true := by
  rw [ByteArray.toList_eq, List.isEmpty_iff]
  exact List.eq_nil_of_length_eq_zero (by rw [Array.length_toList]; exact h)
theorem full_text {t : ByteArray} (h : ¬ t.size = 0) : t.toList.isEmpty = false := by
  rw [Bool.eq_false_iff]
  intro e
  rw [ByteArray.toList_eq, List.isEmpty_iff] at e
  have := congrArg List.length e
  rw [Array.length_toList] at this
  exact h this
theorem odd_k1 (w : World) (b : Bool) (i : Int) (t : ByteArray) (ln on lc oc : Nat) (la oa : Option Addr) :
    Calls Tryz.prog 137 #[.agg #[.int .i64 1, .bool b, .int .i64 i, .string t, .slice la ln lc, .slice oa on oc]] w fun e w' => e = .returned (.bool (oddS 1 b i t ln on)) ∧ Ext w w' := by
  by_cases hb : b = true
  · subst hb
    go_enter Tryz.func137, Tryz.ntmps137
    go_wp2_with fail
    go_ret
    exact ⟨by simp [oddS], (Ext.refl w).alloc _ _⟩
  obtain rfl : b = false := by simpa using hb
  by_cases hi : i = 0
  rotate_left
  · have gi : (i != 0) = true := by simp [hi]
    go_enter Tryz.func137, Tryz.ntmps137
    go_wp2_with fail
    go_ret
    exact ⟨by simp [oddS, hi], (Ext.refl w).alloc _ _⟩
  subst hi
  by_cases ht : t.size = 0
  rotate_left
  · have gt := full_text ht
    go_enter Tryz.func137, Tryz.ntmps137
    go_wp2_with fail
    go_ret
    exact ⟨by simp [oddS, ht], (Ext.refl w).alloc _ _⟩
  have gt := empty_text ht
  by_cases hln : ln = 0
  rotate_left
  · have gln : (0 : Int) < (ln : Int) := by omega
    have gln' : decide ((0 : Int) < (ln : Int)) = true := decide_eq_true gln
    go_enter Tryz.func137, Tryz.ntmps137
    go_wp2_with fail
    go_ret
    exact ⟨by simp [oddS, ht, hln, (show 0 < ln by omega)], (Ext.refl w).alloc _ _⟩
  have gln : decide ((0 : Int) < (ln : Int)) = false := decide_eq_false (by omega)
  by_cases hon : on = 0
  rotate_left
  · have gon : (0 : Int) < (on : Int) := by omega
    have gon' : decide ((0 : Int) < (on : Int)) = true := decide_eq_true gon
    go_enter Tryz.func137, Tryz.ntmps137
    go_wp2_with fail
    go_ret
    exact ⟨by simp [oddS, ht, hln, hon, (show 0 < on by omega)], (Ext.refl w).alloc _ _⟩
  have gon : decide ((0 : Int) < (on : Int)) = false := decide_eq_false (by omega)
  go_enter Tryz.func137, Tryz.ntmps137
  go_wp2_with fail
  go_ret
  exact ⟨by simp [oddS, ht, hln, hon], (Ext.refl w).alloc _ _⟩
theorem odd_k2 (w : World) (b : Bool) (i : Int) (t : ByteArray) (ln on lc oc : Nat) (la oa : Option Addr) :
    Calls Tryz.prog 137 #[.agg #[.int .i64 2, .bool b, .int .i64 i, .string t, .slice la ln lc, .slice oa on oc]] w fun e w' => e = .returned (.bool (oddS 2 b i t ln on)) ∧ Ext w w' := by
  by_cases hi : i = 0
  rotate_left
  · have gi : (i != 0) = true := by simp [hi]
    go_enter Tryz.func137, Tryz.ntmps137
    go_wp2_with fail
    go_ret
    exact ⟨by simp [oddS, hi], (Ext.refl w).alloc _ _⟩
  subst hi
  by_cases ht : t.size = 0
  rotate_left
  · have gt := full_text ht
    go_enter Tryz.func137, Tryz.ntmps137
    go_wp2_with fail
    go_ret
    exact ⟨by simp [oddS, ht], (Ext.refl w).alloc _ _⟩
  have gt := empty_text ht
  by_cases hln : ln = 0
  rotate_left
  · have gln : (0 : Int) < (ln : Int) := by omega
    have gln' : decide ((0 : Int) < (ln : Int)) = true := decide_eq_true gln
    go_enter Tryz.func137, Tryz.ntmps137
    go_wp2_with fail
    go_ret
    exact ⟨by simp [oddS, ht, hln, (show 0 < ln by omega)], (Ext.refl w).alloc _ _⟩
  have gln : decide ((0 : Int) < (ln : Int)) = false := decide_eq_false (by omega)
  by_cases hon : on = 0
  rotate_left
  · have gon : (0 : Int) < (on : Int) := by omega
    have gon' : decide ((0 : Int) < (on : Int)) = true := decide_eq_true gon
    go_enter Tryz.func137, Tryz.ntmps137
    go_wp2_with fail
    go_ret
    exact ⟨by simp [oddS, ht, hln, hon, (show 0 < on by omega)], (Ext.refl w).alloc _ _⟩
  have gon : decide ((0 : Int) < (on : Int)) = false := decide_eq_false (by omega)
  go_enter Tryz.func137, Tryz.ntmps137
  go_wp2_with fail
  go_ret
  exact ⟨by simp [oddS, ht, hln, hon], (Ext.refl w).alloc _ _⟩
theorem odd_k3 (w : World) (b : Bool) (i : Int) (t : ByteArray) (ln on lc oc : Nat) (la oa : Option Addr) :
    Calls Tryz.prog 137 #[.agg #[.int .i64 3, .bool b, .int .i64 i, .string t, .slice la ln lc, .slice oa on oc]] w fun e w' => e = .returned (.bool (oddS 3 b i t ln on)) ∧ Ext w w' := by
  by_cases hb : b = true
  · subst hb
    go_enter Tryz.func137, Tryz.ntmps137
    go_wp2_with fail
    go_ret
    exact ⟨by simp [oddS], (Ext.refl w).alloc _ _⟩
  obtain rfl : b = false := by simpa using hb
  by_cases ht : t.size = 0
  rotate_left
  · have gt := full_text ht
    go_enter Tryz.func137, Tryz.ntmps137
    go_wp2_with fail
    go_ret
    exact ⟨by simp [oddS, ht], (Ext.refl w).alloc _ _⟩
  have gt := empty_text ht
  by_cases hln : ln = 0
  rotate_left
  · have gln : (0 : Int) < (ln : Int) := by omega
    have gln' : decide ((0 : Int) < (ln : Int)) = true := decide_eq_true gln
    go_enter Tryz.func137, Tryz.ntmps137
    go_wp2_with fail
    go_ret
    exact ⟨by simp [oddS, ht, hln, (show 0 < ln by omega)], (Ext.refl w).alloc _ _⟩
  have gln : decide ((0 : Int) < (ln : Int)) = false := decide_eq_false (by omega)
  by_cases hon : on = 0
  rotate_left
  · have gon : (0 : Int) < (on : Int) := by omega
    have gon' : decide ((0 : Int) < (on : Int)) = true := decide_eq_true gon
    go_enter Tryz.func137, Tryz.ntmps137
    go_wp2_with fail
    go_ret
    exact ⟨by simp [oddS, ht, hln, hon, (show 0 < on by omega)], (Ext.refl w).alloc _ _⟩
  have gon : decide ((0 : Int) < (on : Int)) = false := decide_eq_false (by omega)
  go_enter Tryz.func137, Tryz.ntmps137
  go_wp2_with fail
  go_ret
  exact ⟨by simp [oddS, ht, hln, hon], (Ext.refl w).alloc _ _⟩
theorem odd_k4 (w : World) (b : Bool) (i : Int) (t : ByteArray) (ln on lc oc : Nat) (la oa : Option Addr) :
    Calls Tryz.prog 137 #[.agg #[.int .i64 4, .bool b, .int .i64 i, .string t, .slice la ln lc, .slice oa on oc]] w fun e w' => e = .returned (.bool (oddS 4 b i t ln on)) ∧ Ext w w' := by
  by_cases hb : b = true
  · subst hb
    go_enter Tryz.func137, Tryz.ntmps137
    go_wp2_with fail
    go_ret
    exact ⟨by simp [oddS], (Ext.refl w).alloc _ _⟩
  obtain rfl : b = false := by simpa using hb
  by_cases hi : i = 0
  rotate_left
  · have gi : (i != 0) = true := by simp [hi]
    go_enter Tryz.func137, Tryz.ntmps137
    go_wp2_with fail
    go_ret
    exact ⟨by simp [oddS, hi], (Ext.refl w).alloc _ _⟩
  subst hi
  by_cases hln : ln = 0
  rotate_left
  · have gln : (0 : Int) < (ln : Int) := by omega
    have gln' : decide ((0 : Int) < (ln : Int)) = true := decide_eq_true gln
    go_enter Tryz.func137, Tryz.ntmps137
    go_wp2_with fail
    go_ret
    exact ⟨by simp [oddS, hln, (show 0 < ln by omega)], (Ext.refl w).alloc _ _⟩
  have gln : decide ((0 : Int) < (ln : Int)) = false := decide_eq_false (by omega)
  by_cases hon : on = 0
  rotate_left
  · have gon : (0 : Int) < (on : Int) := by omega
    have gon' : decide ((0 : Int) < (on : Int)) = true := decide_eq_true gon
    go_enter Tryz.func137, Tryz.ntmps137
    go_wp2_with fail
    go_ret
    exact ⟨by simp [oddS, hln, hon, (show 0 < on by omega)], (Ext.refl w).alloc _ _⟩
  have gon : decide ((0 : Int) < (on : Int)) = false := decide_eq_false (by omega)
  go_enter Tryz.func137, Tryz.ntmps137
  go_wp2_with fail
  go_ret
  exact ⟨by simp [oddS, hln, hon], (Ext.refl w).alloc _ _⟩
theorem odd_k5 (w : World) (b : Bool) (i : Int) (t : ByteArray) (ln on lc oc : Nat) (la oa : Option Addr) :
    Calls Tryz.prog 137 #[.agg #[.int .i64 5, .bool b, .int .i64 i, .string t, .slice la ln lc, .slice oa on oc]] w fun e w' => e = .returned (.bool (oddS 5 b i t ln on)) ∧ Ext w w' := by
  by_cases hb : b = true
  · subst hb
    go_enter Tryz.func137, Tryz.ntmps137
    go_wp2_with fail
    go_ret
    exact ⟨by simp [oddS], (Ext.refl w).alloc _ _⟩
  obtain rfl : b = false := by simpa using hb
  by_cases hi : i = 0
  rotate_left
  · have gi : (i != 0) = true := by simp [hi]
    go_enter Tryz.func137, Tryz.ntmps137
    go_wp2_with fail
    go_ret
    exact ⟨by simp [oddS, hi], (Ext.refl w).alloc _ _⟩
  subst hi
  by_cases ht : t.size = 0
  rotate_left
  · have gt := full_text ht
    go_enter Tryz.func137, Tryz.ntmps137
    go_wp2_with fail
    go_ret
    exact ⟨by simp [oddS, ht], (Ext.refl w).alloc _ _⟩
  have gt := empty_text ht
  by_cases hon : on = 0
  rotate_left
  · have gon : (0 : Int) < (on : Int) := by omega
    have gon' : decide ((0 : Int) < (on : Int)) = true := decide_eq_true gon
    go_enter Tryz.func137, Tryz.ntmps137
    go_wp2_with fail
    go_ret
    exact ⟨by simp [oddS, ht, hon, (show 0 < on by omega)], (Ext.refl w).alloc _ _⟩
  have gon : decide ((0 : Int) < (on : Int)) = false := decide_eq_false (by omega)
  go_enter Tryz.func137, Tryz.ntmps137
  go_wp2_with fail
  go_ret
  exact ⟨by simp [oddS, ht, hon], (Ext.refl w).alloc _ _⟩
theorem odd_k6 (w : World) (b : Bool) (i : Int) (t : ByteArray) (ln on lc oc : Nat) (la oa : Option Addr) :
    Calls Tryz.prog 137 #[.agg #[.int .i64 6, .bool b, .int .i64 i, .string t, .slice la ln lc, .slice oa on oc]] w fun e w' => e = .returned (.bool (oddS 6 b i t ln on)) ∧ Ext w w' := by
  by_cases hb : b = true
  · subst hb
    go_enter Tryz.func137, Tryz.ntmps137
    go_wp2_with fail
    go_ret
    exact ⟨by simp [oddS], (Ext.refl w).alloc _ _⟩
  obtain rfl : b = false := by simpa using hb
  by_cases hi : i = 0
  rotate_left
  · have gi : (i != 0) = true := by simp [hi]
    go_enter Tryz.func137, Tryz.ntmps137
    go_wp2_with fail
    go_ret
    exact ⟨by simp [oddS, hi], (Ext.refl w).alloc _ _⟩
  subst hi
  by_cases ht : t.size = 0
  rotate_left
  · have gt := full_text ht
    go_enter Tryz.func137, Tryz.ntmps137
    go_wp2_with fail
    go_ret
    exact ⟨by simp [oddS, ht], (Ext.refl w).alloc _ _⟩
  have gt := empty_text ht
  by_cases hln : ln = 0
  rotate_left
  · have gln : (0 : Int) < (ln : Int) := by omega
    have gln' : decide ((0 : Int) < (ln : Int)) = true := decide_eq_true gln
    go_enter Tryz.func137, Tryz.ntmps137
    go_wp2_with fail
    go_ret
    exact ⟨by simp [oddS, ht, hln, (show 0 < ln by omega)], (Ext.refl w).alloc _ _⟩
  have gln : decide ((0 : Int) < (ln : Int)) = false := decide_eq_false (by omega)
  go_enter Tryz.func137, Tryz.ntmps137
  go_wp2_with fail
  go_ret
  exact ⟨by simp [oddS, ht, hln], (Ext.refl w).alloc _ _⟩
theorem odd_other (w : World) {k : Int} (hk : k < 1 ∨ 6 < k) (b : Bool) (i : Int) (t : ByteArray) (ln on lc oc : Nat) (la oa : Option Addr) :
    Calls Tryz.prog 137 #[.agg #[.int .i64 k, .bool b, .int .i64 i, .string t, .slice la ln lc, .slice oa on oc]] w fun e w' => e = .returned (.bool (oddS k b i t ln on)) ∧ Ext w w' := by
  have h1 : (k == 1) = false := by simp; omega
  have h2 : (k == 2) = false := by simp; omega
  have h3 : (k == 3) = false := by simp; omega
  have h4 : (k == 4) = false := by simp; omega
  have h5 : (k == 5) = false := by simp; omega
  have h6 : (k == 6) = false := by simp; omega
  have ho : oddS k b i t ln on = true := by unfold oddS; rw [if_pos hk]
  rw [ho]
  clear hk ho
  go_enter Tryz.func137, Tryz.ntmps137
  go_wp2_with fail
  go_ret
  exact ⟨rfl, (Ext.refl w).alloc _ _⟩
theorem odd_any (w : World) (v : Val) (sl so : Sl) : Calls Tryz.prog 137 #[aggV v sl so] w fun e w' => e = .returned (.bool (oddV v)) ∧ Ext w w' := by
  obtain ⟨k, b, i, t, l, ok, ov⟩ := v
  by_cases hk : k < 1 ∨ 6 < k
  · exact odd_other w hk b i t _ _ _ _ _ _
  · rcases (show k = 1 ∨ k = 2 ∨ k = 3 ∨ k = 4 ∨ k = 5 ∨ k = 6 by omega) with rfl | rfl | rfl | rfl | rfl | rfl
    · exact odd_k1 w b i t _ _ _ _ _ _
    · exact odd_k2 w b i t _ _ _ _ _ _
    · exact odd_k3 w b i t _ _ _ _ _ _
    · exact odd_k4 w b i t _ _ _ _ _ _
    · exact odd_k5 w b i t _ _ _ _ _ _
    · exact odd_k6 w b i t _ _ _ _ _ _
mutual
/-- Why a value that stands so deep may not be (0: it may). -/
def mayV : Val → Nat → Int
  | .mk k b i t l ok ov, j => if oddS k b i t l.length ok.length = true then 9 else if 64 < j then 5 else if k = 4 then (if Lib.validD t.data.toList then 0 else 3) else if k = 5 then mayLV l (j + 1) else if k = 6 then mayM none ok ov (j + 1) else 0
def mayLV : List Val → Nat → Int
  | [], _ => 0
  | d :: r, j => if mayV d j ≠ 0 then mayV d j else mayLV r j
def mayM : Option ByteArray → List ByteArray → List Val → Nat → Int
  | _, _, [], _ => 0
  | p, ks, d :: s, j => if !Lib.validD (ks.headD ByteArray.empty).data.toList then 3 else if p.any (fun q => !klt q (ks.headD ByteArray.empty)) then 8 else if mayV d j ≠ 0 then mayV d j else mayM (some (ks.headD ByteArray.empty)) ks.tail s j
end
theorem mayL_at {l : List Val} {j : Nat} {i : Nat} {d : Val} (h : l[i]? = some d) : mayLV (l.drop i) j = if mayV d j ≠ 0 then mayV d j else mayLV (l.drop (i + 1)) j := by
  obtain ⟨h1, h2⟩ := List.getElem?_eq_some_iff.1 h
  rw [List.drop_eq_getElem_cons h1, h2, mayLV]
theorem klt_no {a b : ByteArray} (h : klt a b = true) : Op.bytesLess b.toList a.toList = false := by
  show klt b a = false
  cases hk : klt b a with
  | false => rfl
  | true => have := klt_trans h hk; rw [klt_irrefl] at this; cases this
theorem text_ne {a b : ByteArray} (h : a ≠ b) : (a.toList == b.toList) = false := by
  rw [beq_eq_false_iff_ne]
  intro e
  rw [ByteArray.toList_eq, ByteArray.toList_eq] at e
  exact h (by cases a; cases b; congr 1; exact Array.toList_inj.1 e)
def prevK (ok : List ByteArray) : Nat → Option ByteArray
  | 0 => none
  | j + 1 => ok[j]?
theorem mayM_at {p : Option ByteArray} {ok : List ByteArray} {ov : List Val} {Q i : Nat} {d : Val} {k : ByteArray} (h : ov[i]? = some d) (hk : ok[i]? = some k) : mayM p (ok.drop i) (ov.drop i) Q =
    if !Lib.validD k.data.toList then 3 else if p.any (fun q => !klt q k) then 8 else if mayV d Q ≠ 0 then mayV d Q else mayM (some k) (ok.drop (i + 1)) (ov.drop (i + 1)) Q := by
  obtain ⟨h1, h2⟩ := List.getElem?_eq_some_iff.1 h
  obtain ⟨k1, k2⟩ := List.getElem?_eq_some_iff.1 hk
  rw [List.drop_eq_getElem_cons h1, h2, List.drop_eq_getElem_cons k1, k2, mayM, List.headD_cons, List.tail_cons]
theorem utfValid_any {w : World} (hL : Lib0 w) {k : ByteArray} (hk : k.size ≤ maxLen) : Calls Tryz.prog 92 #[.string k] w fun e w' => e = .returned (.bool (Lib.validD k.data.toList)) ∧ Nw w w' := by
  have hv := hL.val w (G5.refl w) k hk
  have HV := Lib.hid hv
  clear hv hL
  go_enter Tryz.func92, Tryz.ntmps92
  go_wp2_with fail
  refine HV.out.mono ?_
  rintro e w' ⟨rfl, hn⟩
  have HN := Lib.hid hn
  clear hn
  go_wp2_with fail
  go_ret
  exact ⟨rfl, HN.out⟩
theorem mayAt_any (m : Nat) : ∀ (d : Val), SizeOf.sizeOf d ≤ m → ∀ (w : World) (sl so : Sl) (q : Nat), q ≤ 65 → RV w (Lt w.heap.size) d sl so → Lib0 w →
    Calls Tryz.prog 93 #[aggV d sl so, .int .i64 (q : Int)] w fun e w' => e = .returned (.int .i64 (mayV d q)) ∧ Nw w w' := by
  induction m with
  | zero => intro d hd; have := Val.sz_pos d; omega
  | succ m ih =>
  intro d hd w sl so q hq h hL
  have HI := Lib.hid ih
  clear ih
  obtain ⟨k, b, i, t, l, ok, ov⟩ := d
  have hodd := fun W => odd_any W (.mk k b i t l ok ov) sl so
  show Calls _ _ #[.agg #[.int .i64 k, .bool b, .int .i64 i, .string t, .slice sl.a l.length sl.c, .slice so.a ok.length so.c], .int .i64 q] _ _
  have hrv := h
  cases h with
  | mk bl fl bo fo cl co hl ho hov el rl ek eo ro bk bi bt nl no =>
  have hsl : ∀ (j : Nat) (d : Val), l[j]? = some d → SizeOf.sizeOf d ≤ m := fun j d hj => Nat.le_of_lt_succ (Nat.lt_of_lt_of_le (Val.sz_l hj) hd)
  have hso : ∀ (j : Nat) (d : Val), ov[j]? = some d → SizeOf.sizeOf d ≤ m := fun j d hj => Nat.le_of_lt_succ (Nat.lt_of_lt_of_le (Val.sz_o hj) hd)
  have hu := fun W (hW : Nw w W) => utfValid_any (hL.nw hW) bt
  have HSL := Lib.hid hsl
  have HSO := Lib.hid hso
  have HEL := Lib.hid el
  have HRL := Lib.hid rl
  have HEK := Lib.hid ek
  have HEO := Lib.hid eo
  have HRO := Lib.hid ro
  have HOV := Lib.hid hov
  have HL := Lib.hid hL
  have HU := Lib.hid hu
  have HODD := Lib.hid hodd
  have HSLA := Lib.hid hl
  have HSOA := Lib.hid ho
  clear hsl hso el rl ek eo ro hov hd hL hu hodd hrv
  obtain ⟨r, hr⟩ : ∃ r, mayV (.mk k b i t l ok ov) q = r := ⟨_, rfl⟩
  rw [hr]
  unfold mayV at hr
  go_enter Tryz.func93, Tryz.ntmps93
  go_wp2_with fail
  have hx0 := (Ext.refl w).alloc #[.int .i64 k, .bool b, .int .i64 i, .string t, .slice sl.a l.length sl.c, .slice so.a ok.length so.c] 34
  have hb0 := Blk.new w 34 #[.int .i64 k, .bool b, .int .i64 i, .string t, .slice sl.a l.length sl.c, .slice so.a ok.length so.c]
  refine (HODD.out _).mono ?_
  rintro e w1 ⟨rfl, hx1⟩
  obtain ⟨q0, q1, q2, q3, q4, q5⟩ := (hb0.ext hx1).c6
  have lq := (hb0.ext hx1).lt
  have HX := Lib.hid (hx0.trans hx1)
  have HB := Lib.hid (hb0.ext hx1)
  clear hx0 hx1 hb0 HODD
  unfold oddV
  dsimp only [Val.kind, Val.b, Val.i, Val.t, Val.l, Val.ok]
  by_cases hod : oddS k b i t l.length ok.length = true
  · rw [if_pos hod] at hr
    subst hr
    rw [hod]
    go_wp2_with fail
    go_ret
    exact ⟨rfl, Nw.of HX.out⟩
  rw [if_neg hod] at hr
  rw [show oddS k b i t l.length ok.length = false by simpa using hod]
  by_cases hq64 : 64 < q
  · rw [if_pos hq64] at hr
    subst hr
    have g0 : decide ((64 : Int) < (q : Int)) = true := decide_eq_true (by omega)
    go_wp2_with fail
    go_ret
    exact ⟨rfl, Nw.of HX.out⟩
  rw [if_neg hq64] at hr
  have g0 : decide ((64 : Int) < (q : Int)) = false := decide_eq_false (by omega)
  by_cases h4 : k = 4
  · subst h4
    rw [if_pos rfl] at hr
    go_wp2_with fail
    refine (HU.out _ (Nw.of HX.out)).mono ?_
    rintro e w2 ⟨rfl, hn2⟩
    have HN2 := Lib.hid ((Nw.of HX.out).trans hn2)
    clear hn2
    cases hv : Lib.validD t.data.toList with
    | true =>
      rw [hv, if_pos rfl] at hr
      subst hr
      go_wp2_with fail
      go_ret
      exact ⟨rfl, HN2.out⟩
    | false =>
      rw [hv, if_neg (by decide)] at hr
      subst hr
      go_wp2_with fail
      go_ret
      exact ⟨rfl, HN2.out⟩
  rw [if_neg h4] at hr
  have g4 : (k == 4) = false := by simpa using h4
  by_cases h5 : k = 5
  · subst h5
    rw [if_pos rfl] at hr
    go_wp2_with fail
    go_loopw [30] (fun qq wr => ∃ j : Nat, qq = .int .i64 j ∧ j ≤ l.length ∧ mayLV (l.drop j) (q + 1) = r ∧ Nw w1 wr) (fun qq _ => l.length - (intOf qq).toNat)
    case atStart => exact ⟨0, rfl, Nat.zero_le _, hr, Sb.refl _ _⟩
    case round =>
      obtain ⟨j, rfl, hj, hm, hn⟩ := hrel
      by_cases hlt : j < l.length
      · have g1 : (j : Int) < (l.length : Int) := by omega
        have g1' : decide ((j : Int) < (l.length : Int)) = true := decide_eq_true g1
        obtain ⟨d, hd⟩ : ∃ d, l[j]? = some d := ⟨_, List.getElem?_eq_getElem hlt⟩
        have hnw : Nw w wr := (Nw.of HX.out).trans hn
        have hag : Agree (Lt w.heap.size) w wr := Nw.agree hnw fun _ h => h
        obtain ⟨hsa, hlc, hcm⟩ := HSLA.out.eq (by omega)
        have hbl := HSLA.out.fits (show 0 < l.length by omega)
        obtain ⟨sa, sc⟩ := sl
        dsimp only at hsa hlc hcm
        subst hsa
        obtain ⟨v0, v1, v2, v3, v4, v5⟩ := (HEL.out j d hd).agree hag hbl
        have lb : bl < wr.heap.size := Nat.lt_of_lt_of_le hbl hnw.size
        have hic : ∀ W, Nw wr W → Calls Tryz.prog 93 #[aggV d (cl j).1 (cl j).2, .int .i64 ((q : Int) + 1)] W fun e w' => e = .returned (.int .i64 (mayV d (q + 1))) ∧ Nw W w' := fun W hW => by
          rw [show (q : Int) + 1 = ((q + 1 : Nat) : Int) by omega]
          exact HI.out d (HSL.out j d hd) W _ _ (q + 1) (by omega) (((HRL.out j d hd).agree (hag.trans (Nw.agree hW fun _ h => Nat.lt_of_lt_of_le h hnw.size))).mono fun i hi => Nat.lt_of_lt_of_le hi (Nat.le_trans hnw.size hW.size)) (HL.out.nw (hnw.trans hW))
        have hat := mayL_at (j := q + 1) hd
        rw [hm] at hat
        have g2 : IntKind.i64.wrap ((q : Int) + 1) = (q : Int) + 1 := by rw [IntKind.wrap_i64]; omega
        have HIC := Lib.hid hic
        have HAT := Lib.hid hat
        have HN := Lib.hid hn
        clear hd hnw hag hic hat hn hm
        go_wp2_with fail
        have hx3 := (Ext.refl wr).alloc #[.int .i64 d.kind, .bool d.b, .int .i64 d.i, .string d.t, .slice (cl j).1.a d.l.length (cl j).1.c, .slice (cl j).2.a d.ok.length (cl j).2.c] 34
        refine (HIC.out _ (Nw.of hx3)).mono ?_
        rintro e w3 ⟨rfl, hn3⟩
        have HN3 := Lib.hid ((HN.out.trans (Nw.of hx3)).trans hn3)
        have hat := HAT.out
        clear hx3 hn3 v0 v1 v2 v3 v4 v5 HIC HAT HN
        generalize mayV d (q + 1) = c at hat
        by_cases hc : c = 0
        · subst hc
          rw [if_neg (by simp)] at hat
          have HAT := Lib.hid hat.symm
          clear hat
          go_wp2_with fail
          go_roundw
          case rel => exact ⟨j + 1, by go_num, hlt, HAT.out, HN3.out⟩
          case measure => simp [intOf]; omega
        · rw [if_pos hc] at hat
          subst hat
          have g3 : (r != 0) = true := by simpa using hc
          have HX1 := Lib.hid ((Nw.of HX.out).trans HN3.out)
          clear hc
          go_wp2_with fail
          go_ret
          exact ⟨rfl, HX1.out⟩
      · obtain rfl : j = l.length := by omega
        have g1 : decide ((l.length : Int) < (l.length : Int)) = false := decide_eq_false (by omega)
        have hz : r = 0 := by rw [← hm, List.drop_length, mayLV]
        subst hz
        have HN := Lib.hid ((Nw.of HX.out).trans hn)
        clear hn hm
        go_wp2_with fail
        go_ret
        exact ⟨rfl, HN.out⟩
  rw [if_neg h5] at hr
  have g5 : (k == 5) = false := by simpa using h5
  by_cases h6 : k = 6
  · subst h6
    rw [if_pos rfl] at hr
    go_wp2_with fail
    go_loopw [47] (fun qq wr => ∃ j : Nat, qq = .int .i64 j ∧ j ≤ ok.length ∧ mayM (prevK ok j) (ok.drop j) (ov.drop j) (q + 1) = r ∧ Nw w1 wr) (fun qq _ => ok.length - (intOf qq).toNat)
    case atStart => exact ⟨0, rfl, Nat.zero_le _, hr, Sb.refl _ _⟩
    case round =>
      obtain ⟨j, rfl, hj, hm, hn⟩ := hrel
      by_cases hlt : j < ok.length
      · have g1 : (j : Int) < (ok.length : Int) := by omega
        have g1' : decide ((j : Int) < (ok.length : Int)) = true := decide_eq_true g1
        obtain ⟨kk, hk⟩ : ∃ kk, ok[j]? = some kk := ⟨_, List.getElem?_eq_getElem hlt⟩
        obtain ⟨d, hd⟩ : ∃ d, ov[j]? = some d := ⟨_, List.getElem?_eq_getElem (by rw [HOV.out]; exact hlt)⟩
        have hnw : Nw w wr := (Nw.of HX.out).trans hn
        have hag : Agree (Lt w.heap.size) w wr := Nw.agree hnw fun _ h => h
        obtain ⟨hsa, hlc, hcm⟩ := HSOA.out.eq (by omega)
        have hbl := HSOA.out.fits (show 0 < ok.length by omega)
        obtain ⟨sa, sc⟩ := so
        dsimp only at hsa hlc hcm
        subst hsa
        obtain ⟨v0, v1, v2, v3, v4, v5⟩ := (HEO.out j d hd).agree hag hbl
        have lb : bo < wr.heap.size := Nat.lt_of_lt_of_le hbl hnw.size
        have kc : wr.cell? ⟨bo, fo + j * 7, none⟩ = some (.string kk) := (hag.cell hbl).trans (HEK.out j kk hk).1
        have hks := (HEK.out j kk hk).2
        have hic : ∀ W, Nw wr W → Calls Tryz.prog 93 #[aggV d (co j).1 (co j).2, .int .i64 ((q : Int) + 1)] W fun e w' => e = .returned (.int .i64 (mayV d (q + 1))) ∧ Nw W w' := fun W hW => by
          rw [show (q : Int) + 1 = ((q + 1 : Nat) : Int) by omega]
          exact HI.out d (HSO.out j d hd) W _ _ (q + 1) (by omega) (((HRO.out j d hd).agree (hag.trans (Nw.agree hW fun _ h => Nat.lt_of_lt_of_le h hnw.size))).mono fun i hi => Nat.lt_of_lt_of_le hi (Nat.le_trans hnw.size hW.size)) (HL.out.nw (hnw.trans hW))
        have huk : ∀ W, Nw wr W → Calls Tryz.prog 92 #[.string kk] W fun e w' => e = .returned (.bool (Lib.validD kk.data.toList)) ∧ Nw W w' := fun W hW => utfValid_any (HL.out.nw (hnw.trans hW)) hks
        have hat := mayM_at (p := prevK ok j) (Q := q + 1) hd hk
        rw [hm] at hat
        have g2 : IntKind.i64.wrap ((q : Int) + 1) = (q : Int) + 1 := by rw [IntKind.wrap_i64]; omega
        have HIC := Lib.hid hic
        have HAT := Lib.hid hat
        have HUK := Lib.hid huk
        have HN := Lib.hid hn
        have HKJ := Lib.hid hk
        have HAG := Lib.hid (And.intro hag hbl)
        clear hd hnw hag hic hat hn hm huk hk hks
        go_wp2_with fail
        have hx3 := (Ext.refl wr).alloc #[.string kk, .int .i64 d.kind, .bool d.b, .int .i64 d.i, .string d.t, .slice (co j).1.a d.l.length (co j).1.c, .slice (co j).2.a d.ok.length (co j).2.c] 115
        have hb9 := Blk.new wr 115 #[.string kk, .int .i64 d.kind, .bool d.b, .int .i64 d.i, .string d.t, .slice (co j).1.a d.l.length (co j).1.c, .slice (co j).2.a d.ok.length (co j).2.c]
        refine (HUK.out _ (Nw.of hx3)).mono ?_
        rintro e w3 ⟨rfl, hn3⟩
        have hw3 := (HN.out.trans (Nw.of hx3)).trans hn3
        obtain ⟨u0, u1, u2, u3, u4, u5, u6⟩ := (Nw.blk hn3 hb9).c7
        have ul := (Nw.blk hn3 hb9).lt
        have p5 : w3.cell? ⟨w.heap.size, 5, none⟩ = some (.slice (some ⟨bo, fo, none⟩) ok.length sc) := (Nw.blk hw3 HB.out).cell 5
        have pl := (Nw.blk hw3 HB.out).lt
        have HW3 := Lib.hid hw3
        have HR3 := Lib.hid ((Nw.of hx3).trans hn3)
        have hkp : ∀ i y, j = i + 1 → ok[i]? = some y → w3.cell? ⟨bo, fo + i * 7, none⟩ = some (.string y) := fun i y _ hy =>
          (Nw.agree (((Nw.of HX.out).trans hw3)) (fun _ h => h)).cell HAG.out.2 |>.trans (HEK.out i y hy).1
        have HKP := Lib.hid hkp
        have lb3 : bo < w3.heap.size := by have := HR3.out.size; omega
        have hat := HAT.out
        clear hx3 hb9 hn3 hw3 v0 v1 v2 v3 v4 v5 kc HAT HUK HN hkp
        cases hv : Lib.validD kk.data.toList with
        | false =>
          rw [hv] at hat
          rw [if_pos (by decide)] at hat
          subst hat
          have HX1 := Lib.hid ((Nw.of HX.out).trans HW3.out)
          go_wp2_with fail
          go_ret
          exact ⟨rfl, HX1.out⟩
        | true =>
          rw [hv] at hat
          rw [if_neg (by decide)] at hat
          by_cases hj0 : j = 0
          · subst hj0
            rw [show prevK ok 0 = none from rfl, Option.any_none, if_neg (by decide)] at hat
            have gg : decide ((0 : Int) < ((0 : Nat) : Int)) = false := by decide
            have HAT := Lib.hid hat
            clear hat
            go_wp2_with fail
            go_quiet (fail)
            go_wp2_with fail
            refine (HIC.out _ (HR3.out.trans (Nw.of ((Ext.refl w3).drewN _)))).mono ?_
            rintro e w4 ⟨rfl, hn4⟩
            have HN4 := Lib.hid ((HW3.out.trans (Nw.of ((Ext.refl w3).drewN _))).trans hn4)
            have hat := HAT.out
            clear hn4 HIC HAT u0 u1 u2 u3 u4 u5 u6
            generalize mayV d (q + 1) = c at hat
            by_cases hc : c = 0
            · subst hc
              rw [if_neg (by simp)] at hat
              have HAT := Lib.hid hat.symm
              clear hat
              go_wp2_with fail
              go_roundw
              case rel => exact ⟨0 + 1, by go_num, hlt, by rw [show prevK ok (0 + 1) = some kk from HKJ.out]; exact HAT.out, HN4.out⟩
              case measure => simp [intOf]; omega
            · rw [if_pos hc] at hat
              subst hat
              have g3 : (r != 0) = true := by simpa using hc
              have HX1 := Lib.hid ((Nw.of HX.out).trans HN4.out)
              clear hc
              go_wp2_with fail
              go_ret
              exact ⟨rfl, HX1.out⟩
          · obtain ⟨i, rfl⟩ : ∃ i, j = i + 1 := ⟨j - 1, by omega⟩
            obtain ⟨y, hy⟩ : ∃ y, ok[i]? = some y := ⟨_, List.getElem?_eq_getElem (by omega)⟩
            have pk := HKP.out i y rfl hy
            rw [show prevK ok (i + 1) = some y from hy, Option.any_some] at hat
            have gg : decide ((0 : Int) < ((i + 1 : Nat) : Int)) = true := decide_eq_true (by omega)
            have gg' : (0 : Int) < ((i + 1 : Nat) : Int) := by omega
            have gs : IntKind.i64.wrap (((i + 1 : Nat) : Int) - 1) = (i : Int) := by rw [IntKind.wrap_i64]; omega
            have gi0 : (0 : Int) ≤ (i : Int) := by omega
            have gi1 : (i : Int) < (ok.length : Int) := by omega
            cases hkl : klt y kk with
            | false =>
              rw [hkl, if_pos (by decide)] at hat
              subst hat
              have HX1 := Lib.hid ((Nw.of HX.out).trans HW3.out)
              cases hkr : klt kk y with
              | true =>
                have hbl : Op.bytesLess kk.toList y.toList = true := hkr
                clear hy hj0 HKP
                go_wp2_with fail
                go_quiet (fail)
                go_wp2_with fail
                go_ret
                exact ⟨rfl, HX1.out.trans (Nw.of ((Ext.refl w3).drewN _))⟩
              | false =>
                obtain rfl : y = kk := klt_total hkl hkr
                have hbl : Op.bytesLess y.toList y.toList = false := hkl
                have hbe : (y.toList == y.toList) = true := by simp
                clear hy hj0 HKP
                go_wp2_with fail
                go_quiet (fail)
                go_wp2_with fail
                go_ret
                exact ⟨rfl, HX1.out.trans (Nw.of ((Ext.refl w3).drewN _))⟩
            | true =>
              rw [hkl, if_neg (by decide)] at hat
              have hbl : Op.bytesLess kk.toList y.toList = false := klt_no hkl
              have hbe : (kk.toList == y.toList) = false := text_ne (fun e => by rw [e, klt_irrefl] at hkl; cases hkl)
              have HAT := Lib.hid hat
              clear hat hy hj0 HKP
              go_wp2_with fail
              go_quiet (fail)
              go_wp2_with fail
              refine (HIC.out _ (HR3.out.trans (Nw.of ((Ext.refl w3).drewN _)))).mono ?_
              rintro e w4 ⟨rfl, hn4⟩
              have HN4 := Lib.hid ((HW3.out.trans (Nw.of ((Ext.refl w3).drewN _))).trans hn4)
              have hat := HAT.out
              clear hn4 HIC HAT u0 u1 u2 u3 u4 u5 u6
              generalize mayV d (q + 1) = c at hat
              by_cases hc : c = 0
              · subst hc
                rw [if_neg (by simp)] at hat
                have HAT := Lib.hid hat.symm
                clear hat
                go_wp2_with fail
                go_roundw
                case rel => exact ⟨(i + 1) + 1, by go_num, hlt, by rw [show prevK ok ((i + 1) + 1) = some kk from HKJ.out]; exact HAT.out, HN4.out⟩
                case measure => simp [intOf]; omega
              · rw [if_pos hc] at hat
                subst hat
                have g3 : (r != 0) = true := by simpa using hc
                have HX1 := Lib.hid ((Nw.of HX.out).trans HN4.out)
                clear hc
                go_wp2_with fail
                go_ret
                exact ⟨rfl, HX1.out⟩
      · obtain rfl : j = ok.length := by omega
        have g1 : decide ((ok.length : Int) < (ok.length : Int)) = false := decide_eq_false (by omega)
        have hz : r = 0 := by rw [← hm, ← HOV.out, List.drop_length (l := ov), mayM]
        subst hz
        have HN := Lib.hid ((Nw.of HX.out).trans hn)
        clear hn hm
        go_wp2_with fail
        go_ret
        exact ⟨rfl, HN.out⟩
  · rw [if_neg h6] at hr
    subst hr
    have g6 : (k == 6) = false := by simpa using h6
    go_wp2_with fail
    go_ret
    exact ⟨rfl, Nw.of HX.out⟩
theorem may_anyV {w : World} {v : Val} {sl so : Sl} (h : RV w (Lt w.heap.size) v sl so) (hL : Lib0 w) : Calls Tryz.prog 59 #[aggV v sl so] w fun e w' => e = .returned (.int .i64 (mayV v 1)) ∧ Nw w w' := by
  have hx0 := (Ext.refl w).alloc #[.int .i64 v.kind, .bool v.b, .int .i64 v.i, .string v.t, .slice sl.a v.l.length sl.c, .slice so.a v.ok.length so.c] 34
  have ho := mayAt_any _ v (Nat.le_refl _) (w.alloc (.cells #[.int .i64 v.kind, .bool v.b, .int .i64 v.i, .string v.t, .slice sl.a v.l.length sl.c, .slice so.a v.ok.length so.c] 34)) sl so 1 (by decide) ((h.agree (hx0.agree fun _ h => h)).mono fun i hi => Nat.lt_of_lt_of_le hi hx0.size) (hL.nw (Nw.of hx0))
  have HO := Lib.hid ho
  have HX0 := Lib.hid hx0
  clear ho h hx0 hL
  go_enter Tryz.func59, Tryz.ntmps59
  go_wp2_with fail
  refine HO.out.mono ?_
  rintro e w1 ⟨rfl, hx1⟩
  have HX := Lib.hid ((Nw.of HX0.out).trans hx1)
  clear hx1
  go_wp2_with fail
  go_ret
  exact ⟨rfl, HX.out⟩
end Go.Proofs.YtechahocffcbpaaGreatDoor
