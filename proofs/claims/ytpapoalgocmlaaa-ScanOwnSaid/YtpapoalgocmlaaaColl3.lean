/- A range over a function in a block that its rounds may leave; ways through a region that meet behind it. No program in sight. -/
import Derived.Test.YtpapoalgocmlaaaColl2
namespace Go.Proofs.Ytpapoalgocmlaaa
open Go.RowKit Go.Shelf
set_option linter.unusedVariables false

theorem eql_func_nil3 {P : Program} (w : World) {t : TypeId} {ps rs : Array TypeId} {b : Bool} (f : Fn) (ta lb : Array Value) (hp : P.underlying t = some (.func ps rs b)) :
    (binOp .eql t (.func f ta lb) .nilFunc).run P w = .ok (.bool false) w := by
  have h : ∀ d : Nat, (Op.equalIn (d + 1) t (.func f ta lb) .nilFunc).run P w = .ok false w := fun d => by
    simp [Op.equalIn, run_underlying hp]
  simp only [binOp]
  simp [Op.equal, Op.maxDepth, h 9999]
theorem Bw.es3 {w w' : World} {s : Sl} {xs : List LE} (h : ES w (Lt w.heap.size) s xs) (k : Below w.heap.size w w') : ES w' (Lt w'.heap.size) s xs := (h.agree (Agree.of_below k (F := Lt w.heap.size) fun _ h => h)).mono fun _ hi => Nat.lt_of_lt_of_le hi k.size
/-- Slots set, one behind the other. -/
def putS (tm : Array Value) : List (Nat × Value) → Array Value
  | [] => tm
  | (i, v) :: l => putS (tm.setIfInBounds i v) l
/-- The ways through a region meet: of the slots ds nothing is known but that they hold values. -/
theorem wpIn_meet {F : Fence} {n : Nat} {P : Program} {c : Code} {Q : Exit → Act → World → Prop} {a : Act} {w : World} (Rw : World → Prop) (ds : List Nat) (last : Nat × Value)
    (h1 : c.wpIn F n P (onlyN fun a' w' => Rw w' ∧ a'.defers = a.defers ∧ a'.tmps = putS a.tmps ((ds.map fun d => (d, a'.tmps.getD d undef)) ++ [last])) a w)
    (h2 : ∀ (w' : World) (vs : Nat → Value), Rw w' → Q .normal { tmps := putS a.tmps ((ds.map fun d => (d, vs d)) ++ [last]), defers := a.defers } w') : c.wpIn F n P Q a w :=
  wpIn_mono h1 fun e a' w' h => by
    cases e with
    | normal =>
      obtain ⟨hr, hd, ht⟩ := h
      have := h2 w' (fun d => a'.tmps.getD d undef) hr
      rw [← ht, ← hd] at this
      exact this
    | _ => exact h.elim
/-- The first of a slice of entries. -/
theorem ES.pre {w : World} {F : Nat → Prop} {b o c : Nat} {xs : List LE} (h : ES w F ⟨some ⟨b, o, none⟩, c⟩ xs) {n : Nat} (hn : n ≤ xs.length) (h0 : 0 < xs.length) : ES w F ⟨some ⟨b, o, none⟩, c⟩ (xs.take n) := by
  rcases Nat.eq_zero_or_pos n with rfl | hp
  · obtain ⟨⟨b', o', h1, h2, h3⟩, hv, hf⟩ := h
    obtain ⟨e1, e2, e3⟩ := h1.eq h0
    have hF := h1.fits h0
    obtain ⟨rfl, rfl⟩ : b = b' ∧ o = o' := by simpa using e1
    exact ⟨⟨b, o, .some _ _ _ _ (Nat.zero_le _) e3 hF, by simp [flatE], fun j u hj => by simp [flatE] at hj⟩, fun x hx => by simp at hx, by simp⟩
  · have := h.part (i := 0) (n := n) (by omega) hp
    simpa using this
set_option maxHeartbeats 1000000 in
theorem wpIn_rangeC_block {α : Type} {n id : Nat} {P : Program} {g : Operand} {ps : Array Tmp} {assign body : Code} {Q : Exit → Act → World → Prop} {a : Act} {w : World}
    {gf : Nat} {lb : Array Value} (hg : a.eval g = .func (.func gf) #[] lb) (eg : ∀ args w, (callFunc gf args).run P w = .ok (.enter gf args) w)
    {encs : α → Array Value} {K : Nat → Prop} {G : List α → α → World → World → Prop} {S Sp : List α → Prop} {w0 : World} (hseq : SeqC P gf lb encs K G S Sp w0)
    (hA : Agree K w0 w) (hsz : w0.heap.size ≤ w.heap.size) (hK : ∀ b, K b → b < w.heap.size) (hps : ∀ x, (encs x).size = ps.size)
    (I : List α → (Nat → Prop) → World → Prop) (Ix : List α → World → Prop) (C₀ : Nat → Prop) (hC : ∀ b, C₀ b → b < w.heap.size ∧ ¬ K b)
    (hI : ∀ {s C W W'}, I s C W → St (fun b => b = w.heap.size + 1) W W' → I s C W') (hIx : ∀ {s W W'}, Ix s W → St (fun b => b = w.heap.size + 1) W W' → Ix s W')
    (h0 : ∀ W, Ext w W → w.heap.size + 2 ≤ W.heap.size → I [] C₀ W)
    (hround : ∀ (pre : List α) (C : Nat → Prop) (x : α) (W0 W1 : World), I pre C W0 → (∀ b, C b → b < W0.heap.size) → w.heap.size + 2 ≤ W0.heap.size → ¬ C (w.heap.size + 1) → Ext W0 W1 → G pre x W0 W1 →
      assign.wpIn (Fence.wide.inRound (w.heap.size + 1)) 4 P (Exit.then (fun a1 W2 => Ext W1 W2 ∧ ∀ W3, St (fun b => b = w.heap.size + 1) W2 W3 → body.wpIn (Fence.wide.inRound (w.heap.size + 1)) 4 P (ownPostC C I (fun c s W => c = .exit id ∧ Ix s W) (pre ++ [x]) W3) a1 W3) (fun _ _ _ => False))
        { tmps := (ps.zip (encs x)).foldl (fun t (p, v) => t.setIfInBounds p v) a.tmps, defers := [] } W1)
    (hend : ∀ (D : Nat) (W : World), D = w.heap.size → ((∃ xs C, S xs ∧ I xs C W) ∨ (∃ pre, Sp pre ∧ Ix pre W)) → W.heap[D]? = some (.deferred (some [])) → Q .normal { a with defers := { target := .collected D, args := #[] } :: a.defers } W) :
    (Code.rangeFunc g ps assign body).wpIn Fence.wide n P (Exit.inBlock id Q) a w :=
  wpIn_rangeC hg eg hseq hA hsz hK hps I (fun c s W => c = .exit id ∧ Ix s W) C₀ hC hI (fun h k => ⟨h.1, hIx h.2 k⟩) h0 hround
    (fun D xs C W hD hS hi hDk => hend D W hD (.inl ⟨xs, C, hS, hi⟩) hDk)
    (fun D c pre W hD hSp hX hDk => by
      obtain ⟨rfl, hX⟩ := hX
      refine wpIn_exit ?_
      show (if id = id then _ else _)
      rw [if_pos rfl]
      exact hend D W hD (.inr ⟨pre, hSp, hX⟩) hDk)
end Go.Proofs.Ytpapoalgocmlaaa
