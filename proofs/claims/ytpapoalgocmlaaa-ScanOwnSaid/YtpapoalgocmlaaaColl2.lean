/- A round that appends an entry to a gathered list: its region, in all orders, ends so. -/
import Derived.Test.YtpapoalgocmlaaaLaw8B
namespace Go.Proofs.Ytpapoalgocmlaaa
open Go.RowKit
set_option linter.unusedVariables false

section
variable {P : Program} {ops : Array Oper} {Q : Exit → Act → World → Prop} {md : Region.Mode} {S : World → Prop}
/-- Any of three that may come up. -/
theorem held_three {i j k : Nat} {oi oj ok : Oper} {fuel : Nat} {listed : Array Bool} {a : Act} {w : World} (hr : Region.ready md ops listed = [i, j, k]) (hi : ops[i]? = some oi) (hj : ops[j]? = some oj) (hk : ops[k]? = some ok) (hw : Region.wanted oi (yielded ops a.tmps) = true) (hv : Region.wanted oj (yielded ops a.tmps) = true) (hu : Region.wanted ok (yielded ops a.tmps) = true)
    (h : ∀ K' : Act → World → Prop, Shut (∀ a w, S w → (S w → wpAnyH P md ops Q S fuel (listed.setIfInBounds i true) a w) → K' a w) → Oper.wp P oi a w K' Q)
    (h' : ∀ K' : Act → World → Prop, Shut (∀ a w, S w → (S w → wpAnyH P md ops Q S fuel (listed.setIfInBounds j true) a w) → K' a w) → Oper.wp P oj a w K' Q)
    (h'' : ∀ K' : Act → World → Prop, Shut (∀ a w, S w → (S w → wpAnyH P md ops Q S fuel (listed.setIfInBounds k true) a w) → K' a w) → Oper.wp P ok a w K' Q) : wpAnyH P md ops Q S (fuel + 1) listed a w :=
  wpAnyH_ready hr (by simp) (AllReadyH.cons hi (fun K' hK => by rw [if_pos hw]; exact h K' hK) (AllReadyH.cons hj (fun K' hK => by rw [if_pos hv]; exact h' K' hK) (AllReadyH.cons hk (fun K' hK => by rw [if_pos hu]; exact h'' K' hK) AllReadyH.nil)))
end
/-- A post that is met by going on alone. -/
def onlyN (R : Act → World → Prop) : Exit → Act → World → Prop
  | .normal, a, w => R a w
  | _, _, _ => False
theorem onlyN_mk {R : Act → World → Prop} {a : Act} {w : World} (h : R a w) : onlyN R .normal a w := h
theorem wpIn_onlyN {F : Fence} {n : Nat} {P : Program} {c : Code} {Q : Exit → Act → World → Prop} {a : Act} {w : World} (h : c.wpIn F n P (onlyN (Q .normal)) a w) : c.wpIn F n P Q a w :=
  wpIn_mono h fun e a w h => by cases e <;> first | exact h | exact h.elim
abbrev zeroL : List Value := [.string ByteArray.empty, .int .i64 0, .bool false, .int .i64 0, .string ByteArray.empty, .slice none 0 0, .slice none 0 0]
/-- The row behind an append of a zero entry. -/
theorem row_zero {w5 : World} {base n : Nat} {s3 : Sl} {A : List Value} (h : w5.ownsRow base 56 7 (.slice s3.a (n + 1) s3.c) (n + 1) (A ++ zeroL)) (hA : A.length = n * 7) :
    ∃ g cap, s3 = ⟨some ⟨g, 0, none⟩, cap⟩ ∧ base ≤ g ∧ n + 1 ≤ cap ∧ cap ≤ maxLen ∧ g < w5.heap.size ∧ (∀ o, w5.frozen? ⟨g, o, none⟩ = false) ∧ w5.cell? ⟨g, n * 7, none⟩ = some (.string ByteArray.empty) ∧ w5.cell? ⟨g, n * 7 + 1, none⟩ = some (.int .i64 0) ∧ w5.cell? ⟨g, n * 7 + 2, none⟩ = some (.bool false) ∧
      w5.cell? ⟨g, n * 7 + 3, none⟩ = some (.int .i64 0) ∧ w5.cell? ⟨g, n * 7 + 4, none⟩ = some (.string ByteArray.empty) ∧ w5.cell? ⟨g, n * 7 + 5, none⟩ = some (.slice none 0 0) ∧ w5.cell? ⟨g, n * 7 + 6, none⟩ = some (.slice none 0 0) := by
  obtain ⟨g, cap, rfl, hbg, hnc, hcm, hfil⟩ := own_block h (Nat.succ_pos n)
  have hcl := h.cells (g := g) rfl
  have e : ∀ c u, zeroL[c]? = some u → w5.cell? ⟨g, n * 7 + c, none⟩ = some u := fun c u hu => by
    have := hcl (n * 7 + c) u (by rw [List.getElem?_append_right (by omega), hA, Nat.add_sub_cancel_left]; exact hu)
    rwa [add_at, Nat.zero_add] at this
  exact ⟨g, cap, rfl, hbg, hnc, hcm, hfil.lt, hfil.frozen, e 0 _ rfl, e 1 _ rfl, e 2 _ rfl, e 3 _ rfl, e 4 _ rfl, e 5 _ rfl, e 6 _ rfl⟩
section
variable {w W0 W3 W4 w5 : World} {B g cap : Nat} {s : Sl} {ys : List LE} {es : List Ent} {x : LE}
/-- What a round's region has made, where it is done. -/
def CollEnd (w W3 : World) (B : Nat) (s : Sl) (es : List Ent) (W' : World) : Prop :=
  ∃ C', Coll w B es C' W' ∧ St (fun b => b = B ∨ s.row = some b) W3 W' ∧ (∀ b, C' b → (b = B ∨ s.row = some b) ∨ W3.heap.size ≤ b) ∧ (∀ b, C' b → b < W'.heap.size)
theorem coll_leaf1 (hB : B < w.heap.size) (hblk : Blk W0 B 53 #[.slice s.a ys.length s.c]) (ho : OE W0 (w.heap.size + 2) s ys) (hes : ys.map LE.ent = es) (hst : St (fun b => b = B) w W0) (hsz : w.heap.size + 2 ≤ W0.heap.size)
    (h03 : St (fun b => b = w.heap.size + 1) W0 W3) (hv : RV W3 (In W0.heap.size W3.heap.size) x.v x.sl x.so) (hk : x.k.size ≤ maxLen) (h34 : Ext W3 W4) (hwr : Wr W4 w5 s.row) (hs3 : (⟨some ⟨g, 0, none⟩, cap⟩ : Sl).a = s.a ∨ (⟨some ⟨g, 0, none⟩, cap⟩ : Sl).a = some ⟨W4.heap.size, 0, none⟩ ∧ Wr W4 w5 none) (hfew : (ys.length + 1) * 104 ≤ 140737488355328)
    (hown : w5.ownsRow (w.heap.size + 2) 56 7 (.slice (some ⟨g, 0, none⟩) (ys.length + 1) cap) (ys.length + 1) (flatE ys ++ zeroL)) :
    CollEnd w W3 B s (es ++ [x.ent]) ((putM w5 g (ys.length * 7) x.k x.v x.sl x.so).setCell ⟨B, 0, none⟩ (.slice (some ⟨g, 0, none⟩) (ys.length + 1) cap)) ∧ CollEnd w W3 B s (es ++ [x.ent]) (putM (w5.setCell ⟨B, 0, none⟩ (.slice (some ⟨g, 0, none⟩) (ys.length + 1) cap)) g (ys.length * 7) x.k x.v x.sl x.so) := by
  have hrow0 : ∀ b, s.row = some b → w.heap.size + 2 ≤ b ∧ b < W0.heap.size := fun b hb => own_row ho.own hb
  have hBg : w.heap.size + 2 ≤ g := (own_row (s := ⟨some ⟨g, 0, none⟩, cap⟩) hown rfl).1
  have hBg5 : g < w5.heap.size := (own_row (s := ⟨some ⟨g, 0, none⟩, cap⟩) hown rfl).2
  have hB5 : Blk w5 B 53 #[.slice s.a ys.length s.c] := (hwr.st (H := fun b => s.row = some b) fun i hi => hi).blk ((h03.blk hblk (by omega)).ext h34) (fun e => by have := (hrow0 B e).1; omega)
  have hset : ∀ W, St (fun b => b = B) W (W.setCell ⟨B, 0, none⟩ (.slice (some ⟨g, 0, none⟩) (ys.length + 1) cap)) := fun W => (St.refl (fun b => b = B) W).set (p := ⟨B, 0, none⟩) (.inr rfl) _
  have hput : ∀ W, St (fun b => b = g) W (putM W g (ys.length * 7) x.k x.v x.sl x.so) := fun W => St.putM (H := fun b => b = g) (b := g) (St.refl _ W) (.inr rfl) _ _ _ _ _
  have hl : (flatE ys).length = ys.length * 7 := flatE_len ys
  constructor
  · have hown1 := own_agree' (s := ⟨some ⟨g, 0, none⟩, cap⟩) (own_putM hown hl x) ((hset (putM w5 g (ys.length * 7) x.k x.v x.sl x.so)).agree.mono fun i hi => ⟨hi.2, by have := hi.1; omega⟩)
    obtain ⟨e1, e2, e3, e4⟩ := coll_end (s3 := ⟨some ⟨g, 0, none⟩, cap⟩) (W' := (putM w5 g (ys.length * 7) x.k x.v x.sl x.so).setCell ⟨B, 0, none⟩ (.slice (some ⟨g, 0, none⟩) (ys.length + 1) cap)) hB ho hes hst hsz h03 hv hk h34 hwr hs3
      (((hput w5).mono fun i _ hi => .inr (by rw [hi]; rfl)).trans ((hset _).mono fun i _ hi => .inl hi)) hfew (((hput w5).blk hB5 (by omega)).set_ 0 _) hown1
    exact ⟨_, e1, e2, e3, e4⟩
  · have hown1 := own_putM (own_agree' (s := ⟨some ⟨g, 0, none⟩, cap⟩) hown ((hset w5).agree.mono fun i hi => ⟨hi.2, by have := hi.1; omega⟩)) hl x
    obtain ⟨e1, e2, e3, e4⟩ := coll_end (s3 := ⟨some ⟨g, 0, none⟩, cap⟩) (W' := putM (w5.setCell ⟨B, 0, none⟩ (.slice (some ⟨g, 0, none⟩) (ys.length + 1) cap)) g (ys.length * 7) x.k x.v x.sl x.so) hB ho hes hst hsz h03 hv hk h34 hwr hs3
      (((hset w5).mono fun i _ hi => .inl hi).trans ((hput _).mono fun i _ hi => .inr (by rw [hi]; rfl))) hfew ((hput _).blk (hB5.set_ 0 _) (by omega)) hown1
    exact ⟨_, e1, e2, e3, e4⟩
end
end Go.Proofs.Ytpapoalgocmlaaa
