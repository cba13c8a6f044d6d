/- A range over a function whose rounds may turn what was made for them, too. No program in sight. -/
import Derived.Test.YtpapoalgocmlaaaColl3
namespace Go.Proofs.Ytpapoalgocmlaaa
open Go.RowKit Go.Shelf
set_option linter.unusedVariables false

/-- The rounds' word: what comes (x, behind pre; G holds of it) is taken, and only blocks of C turn. -/
structure Takes2 {α : Type} (P : Program) (l : Nat) (encs : α → Array Value) (G : List α → α → World → World → Prop) (J : List α → (Nat → Prop) → World → Prop) (Jx : List α → World → Prop) : Prop where
  lt : ∀ pre C W, J pre C W → ∀ b, C b → b < W.heap.size
  take : ∀ pre C x W0 Wm W1, J pre C W0 → Ext W0 Wm → Ext Wm W1 → G pre x Wm W1 → YieldAt Fence.wide 4 P l (encs x) W1 fun e W' =>
    (e = .returned (.bool true) ∧ ∃ C', J (pre ++ [x]) C' W' ∧ St (fun b => C b ∨ Wm.heap.size ≤ b) W1 W' ∧ ∀ b, C' b → C b ∨ Wm.heap.size ≤ b) ∨ (e = .returned (.bool false) ∧ Jx (pre ++ [x]) W' ∧ St (fun b => C b ∨ Wm.heap.size ≤ b) W1 W')
/-- The contract of an iterator value that reads blocks of K. -/
def SeqC2 {α : Type} (P : Program) (g : Nat) (lb : Array Value) (encs : α → Array Value) (K : Nat → Prop) (G : List α → α → World → World → Prop) (S Sp : List α → Prop) (w0 : World) : Prop :=
  ∀ (l : Nat) (J : List α → (Nat → Prop) → World → Prop) (Jx : List α → World → Prop) (C : Nat → Prop) (W : World), Takes2 P l encs G J Jx → Agree K w0 W → w0.heap.size ≤ W.heap.size → (∀ b, C b → ¬ K b) → J [] C W →
    Calls P g (#[.func (.yield l) #[] #[]] ++ lb) W fun e W' => (∃ v, e = .returned v) ∧ ((∃ xs C' W0, S xs ∧ J xs C' W0 ∧ Ext W0 W') ∨ (∃ pre W0, Sp pre ∧ Jx pre W0 ∧ Ext W0 W'))

set_option maxHeartbeats 1000000 in
theorem wpIn_rangeC2 {α : Type} {n : Nat} {P : Program} {g : Operand} {ps : Array Tmp} {assign body : Code} {Q : Exit → Act → World → Prop} {a : Act} {w : World}
    {gf : Nat} {lb : Array Value} (hg : a.eval g = .func (.func gf) #[] lb) (eg : ∀ args w, (callFunc gf args).run P w = .ok (.enter gf args) w)
    {encs : α → Array Value} {K : Nat → Prop} {G : List α → α → World → World → Prop} {S Sp : List α → Prop} {w0 : World} (hseq : SeqC2 P gf lb encs K G S Sp w0)
    (hA : Agree K w0 w) (hsz : w0.heap.size ≤ w.heap.size) (hK : ∀ b, K b → b < w.heap.size) (hps : ∀ x, (encs x).size = ps.size)
    (I : List α → (Nat → Prop) → World → Prop) (Ix : Code → List α → World → Prop) (C₀ : Nat → Prop) (hC : ∀ b, C₀ b → b < w.heap.size ∧ ¬ K b)
    (hI : ∀ {s C W W'}, I s C W → St (fun b => b = w.heap.size + 1) W W' → I s C W') (hIx : ∀ {c s W W'}, Ix c s W → St (fun b => b = w.heap.size + 1) W W' → Ix c s W')
    (h0 : ∀ W, Ext w W → w.heap.size + 2 ≤ W.heap.size → I [] C₀ W)
    (hround : ∀ (pre : List α) (C : Nat → Prop) (x : α) (W0 Wm W1 : World), I pre C W0 → (∀ b, C b → b < W0.heap.size) → w.heap.size + 2 ≤ W0.heap.size → ¬ C (w.heap.size + 1) → Ext W0 Wm → Ext Wm W1 → G pre x Wm W1 →
      assign.wpIn (Fence.wide.inRound (w.heap.size + 1)) 4 P (Exit.then (fun a1 W2 => Ext W1 W2 ∧ ∀ W3, St (fun b => b = w.heap.size + 1) W2 W3 → body.wpIn (Fence.wide.inRound (w.heap.size + 1)) 4 P (ownPostC (fun b => C b ∨ Wm.heap.size ≤ b) I Ix (pre ++ [x]) W3) a1 W3) (fun _ _ _ => False))
        { tmps := (ps.zip (encs x)).foldl (fun t (p, v) => t.setIfInBounds p v) a.tmps, defers := [] } W1)
    (hdone : ∀ (D : Nat) (xs : List α) (C : Nat → Prop) (W : World), D = w.heap.size → S xs → I xs C W → W.heap[D]? = some (.deferred (some [])) → Q .normal { a with defers := { target := .collected D, args := #[] } :: a.defers } W)
    (hstop : ∀ (D : Nat) (c : Code) (pre : List α) (W : World), D = w.heap.size → Sp pre → Ix c pre W → W.heap[D]? = some (.deferred (some [])) → c.wpIn Fence.wide n P Q { a with defers := { target := .collected D, args := #[] } :: a.defers } W) :
    (Code.rangeFunc g ps assign body).wpIn Fence.wide n P Q a w := by
  refine wpIn_rangeFunc fun fn hfn => ?_
  rw [show Fence.wide.round = none from rfl]
  -- the loop's record at each of its states; where it lies, and the block of the rounds' deferred calls
  let rec_ : LoopState → Option Code → Obj := fun st pe => .loop { state := st, pending := pe, fn, tmps := a.tmps, params := ps, assign, body, defers := w.heap.size }
  let BK : LoopState → Option Code → World → Prop := fun st pe W => W.heap[w.heap.size + 1]? = some (rec_ st pe) ∧ W.heap[w.heap.size]? = some (.deferred (some []))
  have bkL : ∀ {st pe W}, BK st pe W → w.heap.size + 1 < W.heap.size := fun h => (Array.getElem?_eq_some_iff.1 h.1).1
  have bkE : ∀ {st pe W W'}, BK st pe W → Ext W W' → BK st pe W' := fun h he => ⟨(he.heap (Array.getElem?_eq_some_iff.1 h.1).1).trans h.1, (he.heap (Array.getElem?_eq_some_iff.1 h.2).1).trans h.2⟩
  have bkS : ∀ {st pe W W'} {C : Nat → Prop}, BK st pe W → St C W W' → ¬ C (w.heap.size + 1) → ¬ C w.heap.size → BK st pe W' := fun h hk h1 h2 => ⟨(hk.block _ (bkL h) h1).trans h.1, (hk.block _ (by have := bkL h; omega) h2).trans h.2⟩
  have bkP : ∀ {st pe W} (st' : LoopState) (pe' : Option Code), BK st pe W → BK st' pe' (W.putObj (w.heap.size + 1) (rec_ st' pe')) ∧ St (fun b => b = w.heap.size + 1) W (W.putObj (w.heap.size + 1) (rec_ st' pe')) := fun st' pe' h =>
    ⟨⟨World.putObj_heap_same (Array.getElem?_eq_some_iff.1 h.1).1, (World.putObj_heap_other (by omega)).trans h.2⟩, St.put h.1 rfl rfl⟩
  have e1 : Ext w (w.alloc (.deferred (some []))) := ext_obj w _ fun W i j h => by simp [World.frozen?, h]
  have e2 : Ext (w.alloc (.deferred (some []))) ((w.alloc (.deferred (some []))).alloc (rec_ .ready none)) := ext_obj _ _ fun W i j h => by simp [World.frozen?, h, rec_]
  have hrun := run_enterLoop_outer (P := P) (w := w) fn a.tmps ps assign body
  have bk1 : BK .ready none ((w.alloc (.deferred (some []))).alloc (rec_ .ready none)) :=
    ⟨by have := World.alloc_heap_new (w.alloc (.deferred (some []))) (rec_ .ready none); rwa [World.size_alloc] at this, (Below.heap_alloc _ _ _ (by simp)).trans (World.alloc_heap_new w _)⟩
  have eW := e1.trans e2
  have hs1 : w.heap.size + 2 ≤ ((w.alloc (.deferred (some []))).alloc (rec_ .ready none)).heap.size := by simp
  change _ = Result.ok _ ((w.alloc (.deferred (some []))).alloc (rec_ .ready none)) at hrun
  generalize (w.alloc (.deferred (some []))).alloc (rec_ .ready none) = W1 at *
  refine ⟨w.heap.size + 1, _, W1, { target := .fn (.func gf) lb, args := #[.func (.yield (w.heap.size + 1)) #[] #[]] }, W1, gf, #[.func (.yield (w.heap.size + 1)) #[] #[]] ++ lb, W1, hrun, ?_, ?_, ?_, fun h => by simp [Fence.wide] at h, ?_⟩
  · simp only [resolve, hg]
    simp [go_sem]
  · intro f' hf'; trivial
  · simp [invoke, go_sem, eg]
  refine callsIn_wide.2 ((hseq (w.heap.size + 1) (fun pre C W => ∃ C0 : Nat → Prop, C = (fun b => C0 b ∨ b = w.heap.size + 1) ∧ I pre C0 W ∧ (∀ b, C0 b → b < W.heap.size) ∧ ¬ C0 (w.heap.size + 1) ∧ ¬ C0 w.heap.size ∧ BK .ready none W) (fun pre W => ∃ c, Ix c pre W ∧ BK .done (some c) W) (fun b => C₀ b ∨ b = w.heap.size + 1) W1 ⟨?_, ?_⟩ (hA.trans (eW.agree hK)) (Nat.le_trans hsz eW.size) ?_
    ⟨C₀, rfl, h0 W1 eW hs1, fun b hb => by have := (hC b hb).1; omega, fun h => by have := (hC _ h).1; omega, fun h => by have := (hC _ h).1; omega, bk1⟩).mono ?_)
  · rintro pre C W ⟨C0, rfl, -, hlt, -, -, hbk⟩ b (hb | rfl)
    · exact hlt b hb
    · exact bkL hbk
  · rintro pre C x W0 Wm Wy ⟨C0, rfl, hi, hlt, nL0, nD0, hbk⟩ hxm hmy hgd
    have hx := hxm.trans hmy
    have hbk1 := bkE hbk hx
    have hl0 := bkL hbk
    have hlm := hxm.size
    have nL : ¬ (C0 (w.heap.size + 1) ∨ Wm.heap.size ≤ w.heap.size + 1) := fun h => h.elim nL0 (by omega)
    have nD : ¬ (C0 w.heap.size ∨ Wm.heap.size ≤ w.heap.size) := fun h => h.elim nD0 (by omega)
    have mw := hmy.size
    have emb : ∀ i, (C0 i ∨ Wm.heap.size ≤ i) → ((C0 i ∨ i = w.heap.size + 1) ∨ Wm.heap.size ≤ i) := fun i h => h.elim (fun h => .inl (.inl h)) .inr
    refine ⟨fn, _, assign, body, run_yield (args := encs x) hbk1.1 (hps x), roundIn_of_wpIn hfn (wpIn_mono (hround pre C0 x W0 Wm Wy hi hlt (by omega) nL0 hxm hmy hgd) ?_)⟩
    rintro e a3 W2 hp
    cases e with
    | normal =>
      obtain ⟨hx2, hb⟩ := hp
      have hbk2 := bkE hbk1 hx2
      obtain ⟨hbk3, ht3⟩ := bkP .busy none hbk2
      refine ⟨_, run_beginRound hbk2.1 rfl, wpIn_mono (hb _ ht3) ?_⟩
      have hl3 := bkL hbk3
      generalize W2.putObj (w.heap.size + 1) (rec_ .busy none) = W3 at *
      rintro e a4 W4 hq
      cases e with
      | normal =>
        obtain ⟨C', hi4, hst, hsub, hlt4⟩ := hq
        have hbk4 := bkS hbk3 hst nL nD
        obtain ⟨hbk5, ht5⟩ := bkP .ready none hbk4
        refine ⟨_, _, run_endRound none hbk4.1, .inl ⟨rfl, _, ⟨C', rfl, hI hi4 ht5, fun b hb => Nat.lt_of_lt_of_le (hlt4 b hb) ht5.size, fun h => ?_, fun h => ?_, hbk5⟩, ?_, ?_⟩⟩
        · rcases hsub _ h with h | h
          · exact nL h
          · omega
        · rcases hsub _ h with h | h
          · exact nD h
          · omega
        · exact (((hx2.st _).trans (ht3.mono fun i _ hi => .inl (.inr hi))).trans (hst.mono fun i _ hi => emb i hi)).trans (ht5.mono fun i _ hi => .inl (.inr hi))
        · rintro b (hb | rfl)
          · rcases hsub b hb with h | h
            · exact emb b h
            · exact .inr (by have := hx2.size; have := ht3.size; omega)
          · exact .inl (.inr rfl)
      | ret =>
        have hbk4 := bkS hbk3 hq.1 nL nD
        obtain ⟨hbk5, ht5⟩ := bkP .done (some .ret) hbk4
        exact ⟨_, _, run_endRound (some .ret) hbk4.1, .inr ⟨rfl, ⟨.ret, hIx hq.2 ht5, hbk5⟩, (((hx2.st _).trans (ht3.mono fun i _ hi => .inl (.inr hi))).trans (hq.1.mono fun i _ hi => emb i hi)).trans (ht5.mono fun i _ hi => .inl (.inr hi))⟩⟩
      | exit id =>
        have hbk4 := bkS hbk3 hq.1 nL nD
        obtain ⟨hbk5, ht5⟩ := bkP .done (some (.exit id)) hbk4
        exact ⟨_, _, run_endRound (some (.exit id)) hbk4.1, .inr ⟨rfl, ⟨.exit id, hIx hq.2 ht5, hbk5⟩, (((hx2.st _).trans (ht3.mono fun i _ hi => .inl (.inr hi))).trans (hq.1.mono fun i _ hi => emb i hi)).trans (ht5.mono fun i _ hi => .inl (.inr hi))⟩⟩
      | goto t =>
        have hbk4 := bkS hbk3 hq.1 nL nD
        obtain ⟨hbk5, ht5⟩ := bkP .done (some (.goto t)) hbk4
        exact ⟨_, _, run_endRound (some (.goto t)) hbk4.1, .inr ⟨rfl, ⟨.goto t, hIx hq.2 ht5, hbk5⟩, (((hx2.st _).trans (ht3.mono fun i _ hi => .inl (.inr hi))).trans (hq.1.mono fun i _ hi => emb i hi)).trans (ht5.mono fun i _ hi => .inl (.inr hi))⟩⟩
      | panic ch => exact hq.elim
      | outgrown => exact hq.elim
    | ret => exact hp.elim
    | exit id => exact hp.elim
    | goto t => exact hp.elim
    | panic ch => exact hp.elim
    | outgrown => exact hp.elim
  · rintro b (hb | rfl) hk
    · exact (hC b hb).2 hk
    · have := hK _ hk; omega
  · rintro e W2 ⟨⟨v, rfl⟩, (⟨xs, C, W0, hS, ⟨C0, rfl, hi, -, -, -, hbk⟩, hx⟩ | ⟨pre, W0, hSp, ⟨c, hi, hbk⟩, hx⟩)⟩
    · have hbk2 := bkE hbk hx
      obtain ⟨hbk5, ht5⟩ := bkP .exhausted none hbk2
      exact ⟨none, _, run_endLoop hbk2.1 (by simp), hdone _ xs C0 _ rfl hS (hI hi ((hx.st _).trans ht5)) hbk5.2⟩
    · have hbk2 := bkE hbk hx
      obtain ⟨hbk5, ht5⟩ := bkP .exhausted (some c) hbk2
      exact ⟨some c, _, run_endLoop hbk2.1 (by simp), hstop _ c pre _ rfl hSp (hIx hi ((hx.st _).trans ht5)) hbk5.2⟩

end Go.Proofs.Ytpapoalgocmlaaa
