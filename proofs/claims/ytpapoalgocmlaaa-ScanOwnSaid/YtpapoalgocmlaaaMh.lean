/- Texts that were built one by one, under one roof: A range over a function: the iterator knows which blocks the rounds may turn (C), and that no more come in but new ones. No program in sight; A list of entries that the rounds of a range gather in a box: it goes on by one entry a round. No program in sight; A drawn region in a round of a range over a function, by what is proved of it outside; its operations call no function; Scan's plain law: what an interval of keys has, node by node; how many keys are below one; what begins with a text. No program and no memory in sight; scan: whether a key is behind an interval's end; how many keys of a leaf, of a node, are below one; the entry behind others; scan: how many keys are below one (rank, Rank); the entry behind others (at, At, Before); scan: the entry behind others (at, At); Rank and Before of a tree; scan.Rank, scan.At, scan.Before of a tree; scan.walkLeaf, scan.walk, scan.Range: what an iteration over an interval is told; scan.Range, scan.All: the iterator value, and what it hands; keys.End: the least text above all that begin so; scan.Prefix: the iterator over what begins so; scan.From: the first entry from a key on; scan.Keys: the keys that begin so; law08's five, same; ref08's Range, Prefix, Rank; ref08's Range, Begins, Prefix, Rank: over a list of entries, one by one; law08.made: a tree of entries, and the same, sorted; law08.known: the chapter's rows. -/
import Derived.RangeFuncNested
import Derived.RangeFuncBound
import Derived.RangeFuncCalls
import Derived.RangeFuncLeaves
import Derived.OwnWalkIn
import Derived.Test.YtpapoalgocmlaaaMg
import Derived.OrdersIn
import Derived.Test.YtpapoalgocmlaaaMc
import Derived.Test.YtpapoalgocmlaaaMf
import Derived.Shelf.Abstract
import Derived.Shelf.RegionOpen
import Derived.TacticsInMore
import Derived.LoopNIn
import Derived.LoopIn
import Derived.Laws.IdiomStrings
import Derived.WalkMore
import Derived.WalkArith
namespace Go.Proofs.Ytpapoalgocmlaaa
open Go.RowKit
set_option linter.unusedVariables false

theorem St.then {C C1 : Nat → Prop} {a b c : World} (h : St C a b) (k : St C1 b c) (hC : ∀ i, i < a.heap.size → C1 i → C i) : St C a c :=
  ⟨k.os.trans h.os, k.tape.trans h.tape, k.output.trans h.output, Nat.le_trans h.size k.size, fun i hi hn => (k.block i (Nat.lt_of_lt_of_le hi h.size) (fun hh => hn (hC i hi hh))).trans (h.block i hi hn), fun b o => (k.fz b o).trans (h.fz b o)⟩
theorem St.put {l : Nat} {W : World} {o o' : Obj} (h : W.heap[l]? = some o) (hc : o.isCells = false) (hc' : o'.isCells = false) : St (fun b => b = l) W (W.putObj l o') :=
  ⟨rfl, rfl, rfl, by simp, fun b _ hn => World.putObj_heap_other hn, (Turned.put (Nat.le_refl l) h hc hc').fz⟩
theorem yieldAt_wide {m m' : Nat} {P : Program} {l : Nat} {args : Array Value} {W : World} {R : Ending → World → Prop} (h : YieldAt Fence.wide m P l args W R) : YieldAt Fence.wide m' P l args W R := by
  obtain ⟨fn, tmps, assign, body, hy, h1, h2⟩ := h
  exact ⟨fn, tmps, assign, body, hy, h1, fun c cs _ => h2 c cs (room_wide _)⟩

/-- The rounds' word: what comes (x, behind pre; G holds of it) is taken, and only blocks of C turn. -/
structure Takes {α : Type} (P : Program) (l : Nat) (encs : α → Array Value) (G : List α → α → World → World → Prop) (J : List α → (Nat → Prop) → World → Prop) (Jx : List α → World → Prop) : Prop where
  lt : ∀ pre C W, J pre C W → ∀ b, C b → b < W.heap.size
  take : ∀ pre C x W0 W1, J pre C W0 → Ext W0 W1 → G pre x W0 W1 → YieldAt Fence.wide 4 P l (encs x) W1 fun e W' =>
    (e = .returned (.bool true) ∧ ∃ C', J (pre ++ [x]) C' W' ∧ St C W1 W' ∧ ∀ b, C' b → C b ∨ W1.heap.size ≤ b) ∨ (e = .returned (.bool false) ∧ Jx (pre ++ [x]) W' ∧ St C W1 W')
/-- The contract of an iterator value that reads blocks of K. -/
def SeqC {α : Type} (P : Program) (g : Nat) (lb : Array Value) (encs : α → Array Value) (K : Nat → Prop) (G : List α → α → World → World → Prop) (S Sp : List α → Prop) (w0 : World) : Prop :=
  ∀ (l : Nat) (J : List α → (Nat → Prop) → World → Prop) (Jx : List α → World → Prop) (C : Nat → Prop) (W : World), Takes P l encs G J Jx → Agree K w0 W → w0.heap.size ≤ W.heap.size → (∀ b, C b → ¬ K b) → J [] C W →
    Calls P g (#[.func (.yield l) #[] #[]] ++ lb) W fun e W' => (∃ v, e = .returned v) ∧ ((∃ xs C' W0, S xs ∧ J xs C' W0 ∧ Ext W0 W') ∨ (∃ pre W0, Sp pre ∧ Jx pre W0 ∧ Ext W0 W'))

/-- How the body of a round may be left. -/
def ownPostC {α : Type} (C : Nat → Prop) (I : List α → (Nat → Prop) → World → Prop) (Ix : Code → List α → World → Prop) (xs : List α) (W : World) : Exit → Act → World → Prop
  | .normal, _, W' => ∃ C', I xs C' W' ∧ St C W W' ∧ (∀ b, C' b → C b ∨ W.heap.size ≤ b) ∧ (∀ b, C' b → b < W'.heap.size)
  | .ret, _, W' => St C W W' ∧ Ix .ret xs W'
  | .exit id, _, W' => St C W W' ∧ Ix (.exit id) xs W'
  | .goto t, _, W' => St C W W' ∧ Ix (.goto t) xs W'
  | .panic _, _, _ => False
  | .outgrown, _, _ => False

set_option maxHeartbeats 1000000 in
theorem wpIn_rangeC {α : Type} {n : Nat} {P : Program} {g : Operand} {ps : Array Tmp} {assign body : Code} {Q : Exit → Act → World → Prop} {a : Act} {w : World}
    {gf : Nat} {lb : Array Value} (hg : a.eval g = .func (.func gf) #[] lb) (eg : ∀ args w, (callFunc gf args).run P w = .ok (.enter gf args) w)
    {encs : α → Array Value} {K : Nat → Prop} {G : List α → α → World → World → Prop} {S Sp : List α → Prop} {w0 : World} (hseq : SeqC P gf lb encs K G S Sp w0)
    (hA : Agree K w0 w) (hsz : w0.heap.size ≤ w.heap.size) (hK : ∀ b, K b → b < w.heap.size) (hps : ∀ x, (encs x).size = ps.size)
    (I : List α → (Nat → Prop) → World → Prop) (Ix : Code → List α → World → Prop) (C₀ : Nat → Prop) (hC : ∀ b, C₀ b → b < w.heap.size ∧ ¬ K b)
    (hI : ∀ {s C W W'}, I s C W → St (fun b => b = w.heap.size + 1) W W' → I s C W') (hIx : ∀ {c s W W'}, Ix c s W → St (fun b => b = w.heap.size + 1) W W' → Ix c s W')
    (h0 : ∀ W, Ext w W → w.heap.size + 2 ≤ W.heap.size → I [] C₀ W)
    (hround : ∀ (pre : List α) (C : Nat → Prop) (x : α) (W0 W1 : World), I pre C W0 → (∀ b, C b → b < W0.heap.size) → w.heap.size + 2 ≤ W0.heap.size → ¬ C (w.heap.size + 1) → Ext W0 W1 → G pre x W0 W1 →
      assign.wpIn (Fence.wide.inRound (w.heap.size + 1)) 4 P (Exit.then (fun a1 W2 => Ext W1 W2 ∧ ∀ W3, St (fun b => b = w.heap.size + 1) W2 W3 → body.wpIn (Fence.wide.inRound (w.heap.size + 1)) 4 P (ownPostC C I Ix (pre ++ [x]) W3) a1 W3) (fun _ _ _ => False))
        { tmps := (ps.zip (encs x)).foldl (fun t (p, v) => t.setIfInBounds p v) a.tmps, defers := [] } W1)
    (hdone : ∀ (D : Nat) (xs : List α) (C : Nat → Prop) (W : World), D = w.heap.size → S xs → I xs C W → W.heap[D]? = some (.deferred (some [])) → Q .normal { a with defers := { target := .collected D, args := #[] } :: a.defers } W)
    (hstop : ∀ (D : Nat) (c : Code) (pre : List α) (W : World), D = w.heap.size → Sp pre → Ix c pre W → W.heap[D]? = some (.deferred (some [])) → c.wpIn Fence.wide n P Q { a with defers := { target := .collected D, args := #[] } :: a.defers } W) :
    (Code.rangeFunc g ps assign body).wpIn Fence.wide n P Q a w := by
  refine wpIn_rangeFunc fun fn hfn => ?_
  rw [show Fence.wide.round = none from rfl]
  -- the loop's record at each of its states; where it lies, and the block of the rounds' deferred calls
  let rec_ : LoopState → Option Code → Obj := fun st pe => .loop { state := st, pending := pe, fn, tmps := a.tmps, params := ps, assign, body, defers := w.heap.size }
  let BK : LoopState → Option Code → World → Prop := fun st pe W => W.heap[w.heap.size + 1]? = some (rec_ st pe) ∧ W.heap[w.heap.size]? = some (.deferred (some []))
  have bkL : ∀ {st pe W}, BK st pe W → w.heap.size + 1 < W.heap.size := fun h => (Array.getElem?_eq_some_iff.1 h.1).1
  have bkE : ∀ {st pe W W'}, BK st pe W → Ext W W' → BK st pe W' := fun h he => ⟨(he.heap (Array.getElem?_eq_some_iff.1 h.1).1).trans h.1, (he.heap (Array.getElem?_eq_some_iff.1 h.2).1).trans h.2⟩
  have bkS : ∀ {st pe W W'} {C : Nat → Prop}, BK st pe W → St C W W' → ¬ C (w.heap.size + 1) → ¬ C w.heap.size → BK st pe W' := fun h hk h1 h2 => ⟨(hk.block _ (bkL h) h1).trans h.1, (hk.block _ (by have := bkL h; omega) h2).trans h.2⟩
  have bkP : ∀ {st pe W} (st' : LoopState) (pe' : Option Code), BK st pe W → BK st' pe' (W.putObj (w.heap.size + 1) (rec_ st' pe')) ∧ St (fun b => b = w.heap.size + 1) W (W.putObj (w.heap.size + 1) (rec_ st' pe')) := fun st' pe' h =>
    ⟨⟨World.putObj_heap_same (Array.getElem?_eq_some_iff.1 h.1).1, (World.putObj_heap_other (by omega)).trans h.2⟩, St.put h.1 rfl rfl⟩
  have e1 : Ext w (w.alloc (.deferred (some []))) := ext_obj w _ fun W i j h => by simp [World.frozen?, h]
  have e2 : Ext (w.alloc (.deferred (some []))) ((w.alloc (.deferred (some []))).alloc (rec_ .ready none)) := ext_obj _ _ fun W i j h => by simp [World.frozen?, h, rec_]
  have hrun := run_enterLoop_outer (P := P) (w := w) fn a.tmps ps assign body
  have bk1 : BK .ready none ((w.alloc (.deferred (some []))).alloc (rec_ .ready none)) :=
    ⟨by have := World.alloc_heap_new (w.alloc (.deferred (some []))) (rec_ .ready none); rwa [World.size_alloc] at this, (Below.heap_alloc _ _ _ (by simp)).trans (World.alloc_heap_new w _)⟩
  have eW := e1.trans e2
  have hs1 : w.heap.size + 2 ≤ ((w.alloc (.deferred (some []))).alloc (rec_ .ready none)).heap.size := by simp
  change _ = Result.ok _ ((w.alloc (.deferred (some []))).alloc (rec_ .ready none)) at hrun
  generalize (w.alloc (.deferred (some []))).alloc (rec_ .ready none) = W1 at *
  refine ⟨w.heap.size + 1, _, W1, { target := .fn (.func gf) lb, args := #[.func (.yield (w.heap.size + 1)) #[] #[]] }, W1, gf, #[.func (.yield (w.heap.size + 1)) #[] #[]] ++ lb, W1, hrun, ?_, ?_, ?_, fun h => by simp [Fence.wide] at h, ?_⟩
  · simp only [resolve, hg]
    simp [go_sem]
  · intro f' hf'; trivial
  · simp [invoke, go_sem, eg]
  refine callsIn_wide.2 ((hseq (w.heap.size + 1) (fun pre C W => ∃ C0 : Nat → Prop, C = (fun b => C0 b ∨ b = w.heap.size + 1) ∧ I pre C0 W ∧ (∀ b, C0 b → b < W.heap.size) ∧ ¬ C0 (w.heap.size + 1) ∧ ¬ C0 w.heap.size ∧ BK .ready none W) (fun pre W => ∃ c, Ix c pre W ∧ BK .done (some c) W) (fun b => C₀ b ∨ b = w.heap.size + 1) W1 ⟨?_, ?_⟩ (hA.trans (eW.agree hK)) (Nat.le_trans hsz eW.size) ?_
    ⟨C₀, rfl, h0 W1 eW hs1, fun b hb => by have := (hC b hb).1; omega, fun h => by have := (hC _ h).1; omega, fun h => by have := (hC _ h).1; omega, bk1⟩).mono ?_)
  · rintro pre C W ⟨C0, rfl, -, hlt, -, -, hbk⟩ b (hb | rfl)
    · exact hlt b hb
    · exact bkL hbk
  · rintro pre C x W0 Wy ⟨C0, rfl, hi, hlt, nL, nD, hbk⟩ hx hgd
    have hbk1 := bkE hbk hx
    have hl0 := bkL hbk
    refine ⟨fn, _, assign, body, run_yield (args := encs x) hbk1.1 (hps x), roundIn_of_wpIn hfn (wpIn_mono (hround pre C0 x W0 Wy hi hlt (by omega) nL hx hgd) ?_)⟩
    rintro e a3 W2 hp
    cases e with
    | normal =>
      obtain ⟨hx2, hb⟩ := hp
      have hbk2 := bkE hbk1 hx2
      obtain ⟨hbk3, ht3⟩ := bkP .busy none hbk2
      refine ⟨_, run_beginRound hbk2.1 rfl, wpIn_mono (hb _ ht3) ?_⟩
      have hl3 := bkL hbk3
      generalize W2.putObj (w.heap.size + 1) (rec_ .busy none) = W3 at *
      rintro e a4 W4 hq
      cases e with
      | normal =>
        obtain ⟨C', hi4, hst, hsub, hlt4⟩ := hq
        have hbk4 := bkS hbk3 hst nL nD
        obtain ⟨hbk5, ht5⟩ := bkP .ready none hbk4
        refine ⟨_, _, run_endRound none hbk4.1, .inl ⟨rfl, _, ⟨C', rfl, hI hi4 ht5, fun b hb => Nat.lt_of_lt_of_le (hlt4 b hb) ht5.size, fun h => ?_, fun h => ?_, hbk5⟩, ?_, ?_⟩⟩
        · rcases hsub _ h with h | h
          · exact nL h
          · omega
        · rcases hsub _ h with h | h
          · exact nD h
          · omega
        · exact (((hx2.st _).trans (ht3.mono fun i _ hi => .inr hi)).trans (hst.mono fun i _ hi => .inl hi)).trans (ht5.mono fun i _ hi => .inr hi)
        · rintro b (hb | rfl)
          · rcases hsub b hb with h | h
            · exact .inl (.inl h)
            · exact .inr (by have := hx2.size; have := ht3.size; omega)
          · exact .inl (.inr rfl)
      | ret =>
        have hbk4 := bkS hbk3 hq.1 nL nD
        obtain ⟨hbk5, ht5⟩ := bkP .done (some .ret) hbk4
        exact ⟨_, _, run_endRound (some .ret) hbk4.1, .inr ⟨rfl, ⟨.ret, hIx hq.2 ht5, hbk5⟩, (((hx2.st _).trans (ht3.mono fun i _ hi => .inr hi)).trans (hq.1.mono fun i _ hi => .inl hi)).trans (ht5.mono fun i _ hi => .inr hi)⟩⟩
      | exit id =>
        have hbk4 := bkS hbk3 hq.1 nL nD
        obtain ⟨hbk5, ht5⟩ := bkP .done (some (.exit id)) hbk4
        exact ⟨_, _, run_endRound (some (.exit id)) hbk4.1, .inr ⟨rfl, ⟨.exit id, hIx hq.2 ht5, hbk5⟩, (((hx2.st _).trans (ht3.mono fun i _ hi => .inr hi)).trans (hq.1.mono fun i _ hi => .inl hi)).trans (ht5.mono fun i _ hi => .inr hi)⟩⟩
      | goto t =>
        have hbk4 := bkS hbk3 hq.1 nL nD
        obtain ⟨hbk5, ht5⟩ := bkP .done (some (.goto t)) hbk4
        exact ⟨_, _, run_endRound (some (.goto t)) hbk4.1, .inr ⟨rfl, ⟨.goto t, hIx hq.2 ht5, hbk5⟩, (((hx2.st _).trans (ht3.mono fun i _ hi => .inr hi)).trans (hq.1.mono fun i _ hi => .inl hi)).trans (ht5.mono fun i _ hi => .inr hi)⟩⟩
      | panic ch => exact hq.elim
      | outgrown => exact hq.elim
    | ret => exact hp.elim
    | exit id => exact hp.elim
    | goto t => exact hp.elim
    | panic ch => exact hp.elim
    | outgrown => exact hp.elim
  · rintro b (hb | rfl) hk
    · exact (hC b hb).2 hk
    · have := hK _ hk; omega
  · rintro e W2 ⟨⟨v, rfl⟩, (⟨xs, C, W0, hS, ⟨C0, rfl, hi, -, -, -, hbk⟩, hx⟩ | ⟨pre, W0, hSp, ⟨c, hi, hbk⟩, hx⟩)⟩
    · have hbk2 := bkE hbk hx
      obtain ⟨hbk5, ht5⟩ := bkP .exhausted none hbk2
      exact ⟨none, _, run_endLoop hbk2.1 (by simp), hdone _ xs C0 _ rfl hS (hI hi ((hx.st _).trans ht5)) hbk5.2⟩
    · have hbk2 := bkE hbk hx
      obtain ⟨hbk5, ht5⟩ := bkP .exhausted (some c) hbk2
      exact ⟨some c, _, run_endLoop hbk2.1 (by simp), hstop _ c pre _ rfl hSp (hIx hi ((hx.st _).trans ht5)) hbk5.2⟩

/-- append onto an owned row, within a fence. -/
theorem wpListIn_append_x {F : Fence} {n : Nat} {P : Program} (w : World) {ops : Array Oper} {rest : List Oper} {o : Oper} {a : Act} {Q : Exit → Act → World → Prop} (hgd : o.guard = none) (s' x : Operand) (t : TypeId)
    (ho : o.op = .call { callee := .builtin .append, args := #[s', x], argTypes := #[t, t] })
    (base : Nat) (e : TypeId) (i : TypeInfo) (z : Value) (size bytes : Nat) (ht : P.underlying t = some (.slice e)) (hi : P.info? e = some i) (hz : i.zero = some z)
    (hsize : i.size = size) (hby : i.bytes = bytes) (hzs : z.cells.size = size) (hsz : 0 < size)
    (s : Sl) (k : Nat) (xs : List Value) (hs : a.eval s' = .slice s.a k s.c) (hown : w.ownsRow base e size (.slice s.a k s.c) k xs)
    (G : Nat → Prop) (sx : Sl) (m : Nat) (news : List Value) (hx : a.eval x = .slice sx.a m sx.c) (hsrc : Rd w G size sx m news) (h1 : ∀ u ∈ news, u.oneCell' = true)
    (h63 : k + m ≤ maxLen) (hbytes : (k + m) * bytes ≤ 140737488355328) (hbase : base ≤ w.heap.size)
    (h : ∀ (s' : Sl) (w' : World), w'.ownsRow base e size (.slice s'.a (k + m) s'.c) (k + m) (xs ++ news) → Wr w w' s.row → (s'.a = s.a ∨ s'.a = some ⟨w.heap.size, 0, none⟩ ∧ Wr w w' none) → wpListIn F n P ops Q rest (a.put o.dst (.slice s'.a (k + m) s'.c)) w') : wpListIn F n P ops Q (o :: rest) a w := by
  refine wpListIn_plain hgd fun K hK' => ?_
  obtain ⟨v', w', hr, h2, h3, h4⟩ := run_append_x (P := P) w base t o.type e i z size bytes ht hi hz hsize hby hzs hsz s k xs hown G sx m news hsrc h1 h63 hbytes hbase
  unfold Oper.wpIn
  refine ⟨?_, ?_⟩
  · simp [Oper.about, ho, resolve, Target.leads, Sem.run_pure]
  · rw [Oper.semAt_plain F _ _ (by rw [ho]; intro c hc'; cases hc')]
    simp [execOp, ho, resolve, invoke, builtin, hs, hx, hr, Result.andThen]
    exact hK' _ _ (h v' w' h2 h3 h4)
end Go.Proofs.Ytpapoalgocmlaaa
namespace Go.Proofs.Ytpapoalgocmlaaa
open Go.RowKit
set_option linter.unusedVariables false

theorem OE.agree' {w w' : World} {base : Nat} {s : Sl} {xs : List LE} (h : OE w base s xs) (ha : Agree (In base w.heap.size) w w') (hs : w.heap.size ≤ w'.heap.size) : OE w' base s xs :=
  ⟨own_agree h.own ha fun b hb => ⟨(own_row h.own hb).1, (own_row h.own hb).2⟩, (h.vals.agree (ha.mono fun i hi => hi.1)).mono fun i hi => ⟨⟨hi.1.1, Nat.lt_of_lt_of_le hi.1.2 hs⟩, hi.2⟩, h.few⟩
theorem St.putV {H : Nat → Prop} {a w : World} (h : St H a w) {b : Nat} (hb : a.heap.size ≤ b ∨ H b) (o : Nat) (d : Val) (sl so : Sl) : St H a (putV w b o d sl so) :=
  (((((h.set (p := ⟨b, _, none⟩) hb _).set (p := ⟨b, _, none⟩) hb _).set (p := ⟨b, _, none⟩) hb _).set (p := ⟨b, _, none⟩) hb _).set (p := ⟨b, _, none⟩) hb _).set (p := ⟨b, _, none⟩) hb _
theorem St.putM {H : Nat → Prop} {a w : World} (h : St H a w) {b : Nat} (hb : a.heap.size ≤ b ∨ H b) (o : Nat) (k : ByteArray) (d : Val) (sl so : Sl) : St H a (putM w b o k d sl so) :=
  (h.set (p := ⟨b, _, none⟩) hb _).putV hb _ _ _ _
/-- What was gathered so far, in the box B; the rounds turn B and the list's row. -/
structure Coll (w : World) (B : Nat) (es : List Ent) (C : Nat → Prop) (W : World) : Prop where
  ex : ∃ (s : Sl) (ys : List LE), (C = fun b => b = B ∨ s.row = some b) ∧ Blk W B 53 #[.slice s.a ys.length s.c] ∧ OE W (w.heap.size + 2) s ys ∧ ys.map LE.ent = es
  st : St (fun b => b = B) w W
  sz : w.heap.size + 2 ≤ W.heap.size
theorem Coll.start {w W : World} {B : Nat} (hb : Blk w B 53 #[.slice none 0 0]) (hx : Ext w W) (hz : w.heap.size + 2 ≤ W.heap.size) : Coll w B [] (fun b => b = B) W :=
  ⟨⟨Sl.none, [], by funext b; simp [Sl.row], hb.ext hx, OE.nil _ _, rfl⟩, hx.st _, hz⟩
theorem Coll.turn {w W W' : World} {B : Nat} {es : List Ent} {C : Nat → Prop} (h : Coll w B es C W) (hB : B < w.heap.size) (k : St (fun b => b = w.heap.size + 1) W W') : Coll w B es C W' := by
  obtain ⟨⟨s, ys, h1, h2, h3, h4⟩, h5, h6⟩ := h
  exact ⟨⟨s, ys, h1, k.blk h2 (by omega), h3.agree' (k.agree.mono fun i hi => ⟨hi.2, by have := hi.1; omega⟩) k.size, h4⟩, h5.then k (fun i hi e => by omega), Nat.le_trans h6 k.size⟩
/-- A row that reads as told, in a block that holds it whole. -/
theorem own_of_cells {w : World} {base g e cap size n : Nat} {xs : List Value} (hf : Filling w g e size cap) (hbg : base ≤ g) (hn : n ≤ cap) (hcm : cap ≤ maxLen) (hl : xs.length = n * size) (hc : ∀ j u, xs[j]? = some u → w.cell? ⟨g, j, none⟩ = some u) :
    w.ownsRow base e size (.slice (some ⟨g, 0, none⟩) n cap) n xs := by
  obtain ⟨cur, h1, h2⟩ := hf
  refine ⟨hl, .inr ⟨g, cap, cur, rfl, hbg, h1, hn, hcm, h2, ?_⟩⟩
  have hle : n * size ≤ cap * size := Nat.mul_le_mul_right _ hn
  refine List.ext_getElem? fun j => ?_
  by_cases hj : j < xs.length
  · obtain ⟨u, hu⟩ : ∃ u, xs[j]? = some u := ⟨_, List.getElem?_eq_getElem hj⟩
    have := hc j u hu
    rw [cell_of_row w g j cur e (0, 0) h1] at this
    rw [hu, List.getElem?_take, if_pos (by omega), Array.getElem?_toList, this]
  · rw [List.getElem?_eq_none (l := xs) (by omega), List.getElem?_eq_none (by rw [List.length_take, Array.length_toList]; omega)]
/-- The last entry of an owned row is written. -/
theorem own_putM {w : World} {base e g cap n : Nat} {A Z : List Value} (h : w.ownsRow base e 7 (.slice (some ⟨g, 0, none⟩) (n + 1) cap) (n + 1) (A ++ Z)) (hA : A.length = n * 7) (x : LE) :
    (putM w g (n * 7) x.k x.v x.sl x.so).ownsRow base e 7 (.slice (some ⟨g, 0, none⟩) (n + 1) cap) (n + 1) (A ++ x.cells) := by
  obtain ⟨g', cap', hs, hbg, hnc, hcm, hfil⟩ := own_block (s := ⟨some ⟨g, 0, none⟩, cap⟩) h (Nat.succ_pos n)
  obtain ⟨rfl, rfl⟩ : g = g' ∧ cap = cap' := by simpa using hs
  have hcl := h.cells (g := g) rfl
  obtain ⟨k0, kv⟩ := putM_here hfil (o := n * 7) x.k x.v x.sl x.so (by omega)
  obtain ⟨v1, v2, v3, v4, v5, v6⟩ := kv.m
  refine own_of_cells (hfil.putM _ _ _ _ _ _) hbg hnc hcm (by rw [List.length_append, hA, LE.len]; omega) fun j u hj => ?_
  by_cases hjl : j < n * 7
  · rw [List.getElem?_append_left (by omega)] at hj
    rw [putM_other _ _ _ _ _ _ _ _ (.inl hjl)]
    have := hcl j u (by rw [List.getElem?_append_left (by omega)]; exact hj)
    rw [add_at, Nat.zero_add] at this
    exact this
  · rw [List.getElem?_append_right (by omega), hA] at hj
    obtain ⟨c, rfl⟩ : ∃ c, j = n * 7 + c := ⟨j - n * 7, by omega⟩
    rw [Nat.add_sub_cancel_left] at hj
    match c, hj with
    | 0, hj => cases hj; exact k0
    | 1, hj => cases hj; exact v1
    | 2, hj => cases hj; exact v2
    | 3, hj => cases hj; exact v3
    | 4, hj => cases hj; exact v4
    | 5, hj => cases hj; exact v5
    | 6, hj => cases hj; exact v6
    | c + 7, hj => rw [List.getElem?_eq_none (by rw [LE.len]; omega)] at hj; cases hj
theorem coll_end {w W0 W3 W4 w5 W' : World} {B : Nat} {s s3 : Sl} {ys : List LE} {es : List Ent} {x : LE} (hB : B < w.heap.size) (ho : OE W0 (w.heap.size + 2) s ys) (hes : ys.map LE.ent = es) (hst : St (fun b => b = B) w W0) (hsz : w.heap.size + 2 ≤ W0.heap.size)
    (h03 : St (fun b => b = w.heap.size + 1) W0 W3) (hv : RV W3 (In W0.heap.size W3.heap.size) x.v x.sl x.so) (hk : x.k.size ≤ maxLen) (h34 : Ext W3 W4)
    (hwr : Wr W4 w5 s.row) (hs3 : s3.a = s.a ∨ s3.a = some ⟨W4.heap.size, 0, none⟩ ∧ Wr W4 w5 none) (h5 : St (fun b => b = B ∨ s3.row = some b) w5 W') (hfew : (ys.length + 1) * 104 ≤ 140737488355328)
    (hblk : Blk W' B 53 #[.slice s3.a (ys.length + 1) s3.c]) (hown : W'.ownsRow (w.heap.size + 2) 56 7 (.slice s3.a (ys.length + 1) s3.c) (ys.length + 1) (flatE ys ++ LE.cells x)) :
    Coll w B (es ++ [x.ent]) (fun b => b = B ∨ s3.row = some b) W' ∧ St (fun b => b = B ∨ s.row = some b) W3 W' ∧
      (∀ b, (b = B ∨ s3.row = some b) → (b = B ∨ s.row = some b) ∨ W3.heap.size ≤ b) ∧ (∀ b, (b = B ∨ s3.row = some b) → b < W'.heap.size) := by
  have hrow0 : ∀ b, s.row = some b → w.heap.size + 2 ≤ b ∧ b < W0.heap.size := fun b hb => own_row ho.own hb
  have hs03 := h03.size
  have hs34 := h34.size
  have hs45 := hwr.grown.size
  have hs56 := h5.size
  have hs2 : ∀ b, s3.row = some b → s.row = some b ∨ W4.heap.size ≤ b := by
    intro b hb
    rcases hs3 with h | ⟨h, -⟩
    · exact .inl (by rw [← hb]; simp [Sl.row, h])
    · right; rw [Sl.row, h] at hb; simp at hb; omega
  have hst46 : St (fun b => b = B ∨ s.row = some b) W4 W' := ((hwr.st (H := fun b => b = B ∨ s.row = some b) fun i hi => .inr hi)).then h5 fun i hi h => by
    rcases h with h | h
    · exact .inl h
    · rcases hs2 i h with h | h
      · exact .inr h
      · omega
  have hst36 : St (fun b => b = B ∨ s.row = some b) W3 W' := (h34.st _).trans hst46
  have hst06 : St (fun b => b = w.heap.size + 1 ∨ b = B ∨ s.row = some b) W0 W' := (h03.mono fun i _ hi => .inl hi).trans (hst36.mono fun i _ hi => .inr hi)
  have hl3 : ∀ b, s3.row = some b → b < W'.heap.size := fun b hb => (own_row hown hb).2
  have hx : (ys ++ [x]).length = ys.length + 1 := by simp
  refine ⟨⟨⟨s3, ys ++ [x], rfl, ?_, ⟨?_, ?_, ?_⟩, by rw [List.map_append, hes]; rfl⟩, ?_, by omega⟩, hst36, ?_, ?_⟩
  · rw [hx]; exact hblk
  · rw [hx, flatE_app, show flatE [x] = LE.cells x from by simp [flatE]]; exact hown
  · intro y hy
    rcases List.mem_append.1 hy with hy | hy
    · refine ⟨((ho.vals y hy).1.agree (hst06.agree.mono fun i hi => ⟨hi.1.2, fun h => ?_⟩)).mono fun i hi => ⟨⟨hi.1.1, by have := hi.1.2; omega⟩, fun e => ?_⟩, (ho.vals y hy).2⟩
      · rcases h with h | h | h
        · have := hi.1.1; omega
        · have := hi.1.1; omega
        · exact hi.2 h
      · rcases hs2 i e with h | h
        · exact hi.2 h
        · have := hi.1.2; omega
    · rw [List.mem_singleton.1 hy]
      refine ⟨(hv.agree (hst36.agree.mono fun i hi => ⟨hi.2, fun h => ?_⟩)).mono fun i hi => ⟨⟨by have := hi.1; omega, by have := hi.2; omega⟩, fun e => ?_⟩, hk⟩
      · have := hi.1
        rcases h with h | h
        · have := hst.size; omega
        · have := (hrow0 i h).2; omega
      · have := hi.1
        rcases hs2 i e with h | h
        · have := (hrow0 i h).2; omega
        · have := hi.2; omega
  · rw [hx]; exact hfew
  · exact hst.then hst06 fun i hi h => by
      rcases h with h | h | h
      · omega
      · exact h
      · have := (hrow0 i h).1; omega
  · rintro b (rfl | hb)
    · exact .inl (.inl rfl)
    · rcases hs2 b hb with h | h
      · exact .inl (.inr h)
      · exact .inr (by omega)
  · rintro b (rfl | hb)
    · have := hst.size; omega
    · exact hl3 b hb
end Go.Proofs.Ytpapoalgocmlaaa
namespace Go.Proofs.Ytpapoalgocmlaaa
open Go.RowKit
set_option linter.unusedVariables false

/-- An operation that calls no function. -/
def plainOp : Op → Bool
  | .call c => match c.callee with
    | .builtin .append | .builtin .len | .builtin .cap | .builtin .copy | .builtin .max | .builtin .min => true
    | _ => false
  | .go _ | .defer _ | .send _ _ | .recv _ _ _ | .select _ _ | .panic _ | .nilCheck _ => false
  | _ => true
theorem vrow {P : Program} {w w' : World} (s : Sem Value) (row : String) (args : Array Value) : (do pure (Next.value (← s)) : Sem Next).run P w ≠ .ok (.row row args) w' := by
  intro h
  rw [Sem.run_bind] at h
  cases hs : s.run P w with
  | ok v w1 => rw [hs] at h; simp [Result.andThen] at h
  | halt x w1 => rw [hs] at h; simp [Result.andThen] at h
theorem urow {P : Program} {w w' : World} (s : Sem Unit) (row : String) (args : Array Value) : (do s; pure Next.skip : Sem Next).run P w ≠ .ok (.row row args) w' := by
  intro h
  rw [Sem.run_bind] at h
  cases hs : s.run P w with
  | ok v w1 => rw [hs] at h; simp [Result.andThen] at h
  | halt x w1 => rw [hs] at h; simp [Result.andThen] at h
theorem arow {w' : World} (r : Result Value) (row : String) (args : Array Value) : (r.andThen fun a w => Result.ok (Next.value a) w) ≠ .ok (.row row args) w' := by cases r <;> simp [Result.andThen]
theorem plain_row {P : Program} {ρ : Operand → Value} {o : Oper} {w w' : World} (h : plainOp o.op = true) (row : String) (args : Array Value) : (execOp ρ o).run P w ≠ .ok (.row row args) w' := by
  unfold execOp
  cases ho : o.op with
  | call c =>
    rw [ho] at h
    cases hc : c.callee with
    | builtin b =>
      simp only [plainOp, hc] at h
      cases b <;> first | exact absurd h (by decide) | (simp only [resolve, hc, Sem.run_bind, Sem.run_pure, Result.andThen_ok, invoke, builtin]; exact arow _ _ _)
    | _ => simp [plainOp, hc] at h
  | pick c x y =>
    intro h'
    simp only at h'
    rw [Sem.run_bind] at h'
    cases hs : (asBool (ρ c)).run P w with
    | ok v w1 => rw [hs] at h'; simp [Result.andThen] at h'
    | halt x w1 => rw [hs] at h'; simp [Result.andThen] at h'
  | _ =>
    simp only
    first
    | exact vrow _ _ _
    | exact urow _ _ _
    | (intro h; simp at h; done)
    | (rw [ho] at h; simp [plainOp] at h)
theorem plain_no_defer {o : Oper} (h : plainOp o.op = true) : ∀ c, o.op ≠ .defer c := fun c e => by rw [e] at h; simp [plainOp] at h
theorem wpOpIn_of_plain {P : Program} {ops : Array Oper} {Q : Exit → Act → World → Prop} {l n : Nat} (hp : ∀ (i : Nat) (o : Oper), ops[i]? = some o → plainOp o.op = true) (hQ : ¬ LetsOut Q) {i : Nat} {K K' : Act → World → Prop} {a : Act} {w : World}
    (hK : ∀ a w, K a w → K' a w) (h : wpOp P ops Q i K a w) : wpOpIn (Fence.wide.inRound l) n P ops Q i K' a w := by
  unfold wpOp at h
  unfold wpOpIn
  cases ho : ops[i]? with
  | none => simp only [ho] at h ⊢; exact hK _ _ h
  | some o =>
    simp only [ho] at h ⊢
    split at h
    · rename_i hw
      rw [if_pos hw]
      rcases h with h | ⟨-, h⟩
      · unfold Oper.wpIn
        refine ⟨fun _ _ => trivial, ?_⟩
        rw [show (Fence.wide.inRound l).round = some l from rfl, Oper.semAt_some l _ o (plain_no_defer (hp i o ho))]
        unfold Oper.wp at h
        have hr := fun row args w' => plain_row (P := P) (ρ := a.eval) (w := w) (w' := w') (hp i o ho) row args
        generalize (execOp a.eval o).run P w = r at *
        cases r with
        | ok x w' =>
          cases x <;> simp only [Oper.upon, Oper.uponIn] at h ⊢
          case value v => exact hK _ _ h
          case skip => exact hK _ _ h
          case defer d => exact hK _ _ h
          case enter f args =>
            refine ⟨(fun hd => by simp [Fence.wide] at hd), (CallsIn.inRound l (callsIn_wide.2 h)).mono fun e w'' he => ?_⟩
            cases e with
            | returned v => exact hK _ _ he
            | panicked c => exact he
            | outgrown => exact he
          case row row args => exact absurd rfl (hr row args w')
        | halt x w' => cases x <;> simp only [Oper.upon, Oper.uponIn] at h ⊢ <;> exact h
      · exact absurd h hQ
    · rename_i hw
      rw [if_neg hw]
      exact ⟨fun _ _ => trivial, hK _ _ h⟩
theorem wpAnyIn_of_plain {P : Program} {md : Region.Mode} {ops : Array Oper} {Q : Exit → Act → World → Prop} {S : World → Prop} {l n : Nat} (hp : ∀ (i : Nat) (o : Oper), ops[i]? = some o → plainOp o.op = true) (hQ : ¬ LetsOut Q) :
    ∀ fuel listed a w, wpAnyH P md ops Q S fuel listed a w → wpAnyIn (Fence.wide.inRound l) n P md ops Q fuel listed a w := by
  intro fuel
  induction fuel with
  | zero => exact fun _ _ _ h => h
  | succ fuel ih =>
    intro listed a w h
    exact ⟨h.1, fun i hi => wpOpIn_of_plain hp hQ (fun a' w' h' => ih _ a' w' h'.2) (h.2 i hi)⟩
/-- A region that draws its order, in a round: walked as outside. -/
theorem wpIn_region_round {P : Program} {id l n : Nat} {ops : Array Oper} {Q : Exit → Act → World → Prop} {S : World → Prop} {a : Act} {w : World} (hp : (ops.all fun o => plainOp o.op) = true) (hQ : ¬ LetsOut Q) (hm : P.follows .mixedOrders = true) (hS : S w.drew)
    (h : S w.drew → wpAnyH P .any ops Q S ops.size (Array.replicate ops.size false) a w.drew) : (Code.region id ops true).wpIn (Fence.wide.inRound l) n P Q a w :=
  wpIn_region_any hm (wpAnyIn_of_plain (fun i o ho => by
    have := Array.all_eq_true.1 hp i (Array.getElem?_eq_some_iff.1 ho).1
    rwa [(Array.getElem?_eq_some_iff.1 ho).2] at this) hQ _ _ _ _ (h hS))
end Go.Proofs.Ytpapoalgocmlaaa
namespace Go.Proofs.Ytpapoalgocmlaaa
set_option linter.unusedVariables false

/-- Is a key within the interval? -/
def inI (lo hi : ByteArray) (op : Bool) (e : Ent) : Bool := !(klt e.1 lo) && (op || klt e.1 hi)
def rangeE (lo hi : ByteArray) (op : Bool) (es : List Ent) : List Ent := es.filter (inI lo hi op)
theorem rangeE_app (lo hi : ByteArray) (op : Bool) (a b : List Ent) : rangeE lo hi op (a ++ b) = rangeE lo hi op a ++ rangeE lo hi op b := List.filter_append ..
theorem rangeE_below {lo hi : ByteArray} {op : Bool} {es : List Ent} (h : ∀ e ∈ es, klt e.1 lo = true) : rangeE lo hi op es = [] :=
  List.filter_eq_nil_iff.2 fun e he => by simp [inI, h e he]
/-- Is a key behind the interval's end? -/
def endI (hi : ByteArray) (op : Bool) (k : ByteArray) : Bool := !op && !(klt k hi)
theorem rangeE_above {lo hi : ByteArray} {op : Bool} {es : List Ent} (h : ∀ e ∈ es, endI hi op e.1 = true) : rangeE lo hi op es = [] :=
  List.filter_eq_nil_iff.2 fun e he => by
    have := h e he
    simp only [endI, Bool.and_eq_true, Bool.not_eq_true'] at this
    simp [inI, this.1, this.2]
theorem endI_up {hi : ByteArray} {op : Bool} {a b : ByteArray} (h : endI hi op a = true) (hab : klt a b = true) : endI hi op b = true := by
  simp only [endI, Bool.and_eq_true, Bool.not_eq_true'] at h ⊢
  refine ⟨h.1, ?_⟩
  cases hb : klt b hi
  · rfl
  · rw [klt_trans hab hb] at h; cases h.2
theorem rangeE_one {lo hi : ByteArray} {op : Bool} {e : Ent} (h1 : klt e.1 lo = false) (h2 : endI hi op e.1 = false) : rangeE lo hi op [e] = [e] := by
  have : inI lo hi op e = true := by
    simp only [endI, Bool.and_eq_false_iff, Bool.not_eq_false'] at h2
    rcases h2 with h2 | h2 <;> simp [inI, h1, h2]
  simp [rangeE, this]
/-- Of what stands behind a key that is behind the end, nothing is within. -/
theorem rangeE_behind {lo hi : ByteArray} {op : Bool} {A B : List Ent} (hs : Sorted (A ++ B)) (h : ∃ e ∈ A, endI hi op e.1 = true) : rangeE lo hi op B = [] := by
  obtain ⟨e, he, h⟩ := h
  exact rangeE_above fun x hx => endI_up h ((sorted_app hs).2.2 e he x hx)
theorem le_last {es : List Ent} (hs : Sorted es) {e : Ent} (he : e ∈ es) : klt (lastK es) e.1 = false := by
  have hne : es ≠ [] := by rintro rfl; cases he
  rcases List.eq_nil_or_concat es with rfl | ⟨a, x, rfl⟩
  · exact absurd rfl hne
  · rw [List.concat_eq_append] at hs he
    have hl : lastK (a.concat x) = x.1 := by simp [lastK]
    rw [hl]
    rcases List.mem_append.1 he with h | h
    · exact klt_asymm ((sorted_app hs).2.2 e h x (List.mem_singleton.2 rfl))
    · rw [List.mem_singleton.1 h]; exact klt_irrefl _
theorem first_le {es : List Ent} (hs : Sorted es) {e : Ent} (he : e ∈ es) : klt e.1 (firstK es) = false := by
  cases es with
  | nil => cases he
  | cons x es =>
    show klt e.1 x.1 = false
    rcases List.mem_cons.1 he with rfl | h
    · exact klt_irrefl _
    · exact klt_asymm ((List.pairwise_cons.1 hs).1 e h)
theorem lt_of_last {es : List Ent} (hs : Sorted es) {lo : ByteArray} (h : klt (lastK es) lo = true) : ∀ e ∈ es, klt e.1 lo = true := fun e he => klt_of_ge_lt (le_last hs he) h
theorem end_of_first {es : List Ent} (hs : Sorted es) {hi : ByteArray} {op : Bool} (h : endI hi op (firstK es) = true) : ∀ e ∈ es, endI hi op e.1 = true := fun e he => by
  simp only [endI, Bool.and_eq_true, Bool.not_eq_true'] at h ⊢
  refine ⟨h.1, ?_⟩
  cases hb : klt e.1 hi
  · rfl
  · have := klt_of_ge_lt (first_le hs he) hb
    rw [h.2] at this; cases this
theorem last_mem {es : List Ent} (h : es ≠ []) : ∃ e ∈ es, e.1 = lastK es := by
  rcases List.eq_nil_or_concat es with rfl | ⟨a, x, rfl⟩
  · exact absurd rfl h
  · exact ⟨x, by simp, by simp [lastK]⟩
/-- How many are below a key: of two lists one behind the other. -/
theorem posE_app {A : List Ent} {k : ByteArray} (h : ∀ e ∈ A, klt e.1 k = true) (B : List Ent) : posE (A ++ B) k = A.length + posE B k := by
  induction A with
  | nil => simp
  | cons a A ih =>
    have ha := h a (List.mem_cons_self ..)
    have := ih fun e he => h e (List.mem_cons_of_mem _ he)
    unfold posE at this ⊢
    simp only [List.cons_append, List.takeWhile_cons, ha, if_true, List.length_cons]
    omega
theorem posE_stop {k : ByteArray} : ∀ {A : List Ent}, (∃ e ∈ A, klt e.1 k = false) → ∀ B, posE (A ++ B) k = posE A k
  | [], h, _ => by obtain ⟨e, he, _⟩ := h; cases he
  | a :: A, h, B => by
    cases ha : klt a.1 k with
    | false => simp [posE, ha]
    | true =>
      have h' : ∃ e ∈ A, klt e.1 k = false := by
        obtain ⟨e, he, h⟩ := h
        rcases List.mem_cons.1 he with rfl | he
        · rw [ha] at h; cases h
        · exact ⟨e, he, h⟩
      have := posE_stop h' B
      unfold posE at this ⊢
      simp only [List.cons_append, List.takeWhile_cons, ha, if_true, List.length_cons]
      omega
theorem posE_all {A : List Ent} {k : ByteArray} (h : ∀ e ∈ A, klt e.1 k = true) : posE A k = A.length := by
  have := posE_app h []
  simpa [posE] using this
theorem posE_not {A : List Ent} {k : ByteArray} (hs : Sorted A) : (A.filter fun e => klt e.1 k).length = posE A k := by
  obtain ⟨h1, h2⟩ := pos_split A k hs
  conv => lhs; rw [← List.take_append_drop (posE A k) A]
  rw [List.filter_append, List.filter_eq_self.2 fun e he => h1 e he, List.filter_eq_nil_iff.2 fun e he => by simp [h2 e he], List.append_nil, List.length_take]
  have := posE_le A k
  omega
/-- From a key on. -/
theorem rangeE_open {es : List Ent} (hs : Sorted es) (lo hi : ByteArray) : rangeE lo hi true es = es.drop (posE es lo) := by
  obtain ⟨h1, h2⟩ := pos_split es lo hs
  conv => lhs; rw [← List.take_append_drop (posE es lo) es]
  rw [rangeE_app, rangeE_below h1, List.nil_append]
  exact List.filter_eq_self.2 fun e he => by simp [inI, h2 e he]
theorem klt_empty (k : ByteArray) : klt k ByteArray.empty = false := by
  show Op.bytesLess k.toList ByteArray.empty.toList = false
  rw [show ByteArray.empty.toList = [] from by rw [ByteArray.toList_eq]; rfl]
  cases k.toList <;> rfl
theorem rangeE_all {es : List Ent} (hi : ByteArray) : rangeE ByteArray.empty hi true es = es := List.filter_eq_self.2 fun e _ => by simp [inI, klt_empty]

/-! ### What begins with a text -/
/-- The least list of bytes above all that begin so, if there is one. -/
def endL : List UInt8 → Option (List UInt8)
  | [] => none
  | b :: t => match endL t with
    | some e => some (b :: e)
    | none => if b = 255 then none else some [b + 1]
theorem bl_nil (k : List UInt8) : Op.bytesLess k [] = false := by cases k <;> rfl
theorem u8_lt_succ {b c : UInt8} (hb : b ≠ 255) : (c < b + 1) ↔ (c < b ∨ c = b) := by
  have h1 : (b + 1).toNat = b.toNat + 1 := by
    rw [UInt8.toNat_add]
    have : b.toNat ≠ 255 := fun e => hb (UInt8.toNat_inj.1 e)
    have := b.toNat_lt
    show (b.toNat + 1) % 256 = _
    omega
  rw [UInt8.lt_iff_toNat_lt, UInt8.lt_iff_toNat_lt, h1, ← UInt8.toNat_inj]
  omega
theorem begins_iff : ∀ p k : List UInt8, (p.isPrefixOf k) = (!(Op.bytesLess k p) && (match endL p with | none => true | some e => Op.bytesLess k e))
  | [], k => by simp [bl_nil, endL, List.isPrefixOf]
  | b :: t, [] => by simp [Op.bytesLess, List.isPrefixOf]
  | b :: t, c :: s => by
    have ih := begins_iff t s
    simp only [List.isPrefixOf, Op.bytesLess, endL]
    by_cases hlt : c < b
    · have hne : (b == c) = false := beq_eq_false_iff_ne.2 (by rintro rfl; exact absurd hlt (UInt8.lt_irrefl _))
      simp [hlt, hne]
    · by_cases he : c = b
      · subst he
        cases hE : endL t with
        | some e =>
          rw [hE] at ih
          simp [Op.bytesLess, ih, UInt8.lt_irrefl]
        | none =>
          rw [hE] at ih
          by_cases h255 : c = 255
          · subst h255; simp [ih, UInt8.lt_irrefl]
          · have h1 : c < c + 1 := (u8_lt_succ h255).2 (.inr rfl)
            simp [Op.bytesLess, ih, UInt8.lt_irrefl, h255, h1]
      · have hne : (b == c) = false := beq_eq_false_iff_ne.2 fun e => he e.symm
        have hne' : (c == b) = false := beq_eq_false_iff_ne.2 he
        simp only [hne, Bool.false_and, hlt, decide_false, hne', Bool.or_self, Bool.not_false, Bool.true_and]
        cases hE : endL t with
        | some e => simp [Op.bytesLess, hlt, hne']
        | none =>
          by_cases h255 : b = 255
          · exfalso
            subst h255
            have h1 := UInt8.not_lt.1 hlt
            have h2 : c ≤ 255 := UInt8.le_iff_toNat_le.2 (by have := c.toNat_lt; show c.toNat ≤ 255; omega)
            exact he (UInt8.le_antisymm h2 h1)
          · have h1 : ¬ c < b + 1 := fun h => by
              rcases (u8_lt_succ h255).1 h with h | h
              · exact hlt h
              · exact he h
            simp [h255, Op.bytesLess, h1, bl_nil]
theorem endL_ff : ∀ n : Nat, endL (List.replicate n 255) = none
  | 0 => rfl
  | n + 1 => by rw [List.replicate_succ, endL, endL_ff n]; rfl
theorem endL_at {b : UInt8} (hb : b ≠ 255) (n : Nat) : ∀ a : List UInt8, endL (a ++ b :: List.replicate n 255) = some (a ++ [b + 1])
  | [] => by rw [List.nil_append, endL, endL_ff]; simp [hb]
  | x :: a => by rw [List.cons_append, endL, endL_at hb n a]; rfl
end Go.Proofs.Ytpapoalgocmlaaa
namespace Go.Proofs.Ytpapoalgocmlaaa
open Go.RowKit
set_option linter.unusedVariables false
set_option linter.unusedSimpArgs false

abbrev inV (lo hi : ByteArray) (op : Bool) : Value := .agg #[.string lo, .string hi, .bool op]
theorem ends_any (w : World) (lo hi : ByteArray) (op : Bool) (k : ByteArray) : Calls Try.prog 148 #[inV lo hi op, .string k] w fun e w' => e = .returned (.bool (endI hi op k)) ∧ Ext w w' := by
  cases op
  · go_enter Try.func148, Try.ntmps148
    go_wp2_with fail
    go_ret
    exact ⟨rfl, (Ext.refl w).alloc _ _⟩
  · go_enter Try.func148, Try.ntmps148
    go_wp2_with fail
    go_ret
    exact ⟨rfl, (Ext.refl w).alloc _ _⟩

/-- A leaf, or none: what is answered of it wherever it lies as it did (At). -/
structure LeafC (At : World → Prop) (nv : Value) (es : List Ent) : Prop where
  ext : ∀ {W W'}, At W → Ext W W' → At W'
  ptr : ∃ p, nv = .pointer p
  height : ∀ W, At W → Calls Try.prog 67 #[nv] W fun e w' => e = .returned (.int .i64 0) ∧ W = w'
  size : ∀ W, At W → Calls Try.prog 143 #[nv] W fun e w' => e = .returned (.int .i64 es.length) ∧ ∃ q, w' = W.drewN q
  kids : ∀ W, At W → Calls Try.prog 137 #[nv] W fun e w' => e = .returned (.slice none 0 0) ∧ W = w'
  entry : ∀ W, At W → ∀ (i : Nat) (e : Ent), es[i]? = some e → Calls Try.prog 145 #[nv, .int .i64 i] W (EntryPost e.1 e.2 W)
  none : ∀ W, At W → ∀ i : Int, (i < 0 ∨ es.length ≤ i) → Calls Try.prog 145 #[nv, .int .i64 i] W fun e w' => e = .returned (.tuple #[aggE ByteArray.empty zeroV Sl.none Sl.none, .bool false]) ∧ Ext W w'
  sorted : Sorted es
  few : es.length ≤ 8
/-- A node reads, below the world's end. -/
def NodeAt (F : Nat → Prop) (h : Nat) (t : PT h) (W : World) : Prop := IsN W F h t ∧ ∀ b, F b → b < W.heap.size
theorem NodeAt.ext {F : Nat → Prop} {h : Nat} {t : PT h} {W W' : World} (a : NodeAt F h t W) (k : Ext W W') : NodeAt F h t W' := ⟨a.1.agree (k.agree a.2), fun b hb => Nat.lt_of_lt_of_le (a.2 b hb) k.size⟩
theorem NodeAt.lt {F : Nat → Prop} {h : Nat} {t : PT h} {W : World} (a : NodeAt F h t W) : IsN W (Lt W.heap.size) h t := a.1.mono a.2
theorem leafC_node {F : Nat → Prop} {t : PT 0} (ok : OkT 0 t) (hs : Sorted (ents 0 t)) : LeafC (NodeAt F 0 t) (ptr 0 t) (ents 0 t) where
  ext := NodeAt.ext
  ptr := ⟨_, rfl⟩
  height W a := height_any a.1
  size W a := size_any a.1 (Nat.le_trans (show (ents 0 t).length ≤ 8 from ok) (by decide))
  kids W a := kids_leaf a.1
  entry W a i e h := entry_any a.lt h
  none W a i h := entry_none a.lt h
  sorted := hs
  few := ok
theorem leafC_nil : LeafC (fun _ => True) (.pointer none) [] where
  ext _ _ := trivial
  ptr := ⟨_, rfl⟩
  height W _ := height_nil W
  size W _ := (size_nil W).mono fun e w' ⟨h1, h2⟩ => ⟨h1, 0, h2.symm⟩
  kids W _ := kids_nil W
  entry W _ i e h := by simp at h
  none W _ i _ := entry_nil W i
  sorted := List.Pairwise.nil
  few := by simp

set_option maxRecDepth 100000 in
/-- The closure of below. -/
theorem below1_any {W : World} {nv : Value} {b1 b2 : Nat} {k k' : ByteArray} {v : Val} {i : Nat} (h1 : W.cell? ⟨b1, 0, none⟩ = some nv) (h2 : W.cell? ⟨b2, 0, none⟩ = some (.string k))
    (hp : ∃ p, nv = .pointer p) (hc : Calls Try.prog 145 #[nv, .int .i64 i] W (EntryPost k' v W)) :
    Calls Try.prog 176 #[.int .i64 i, .pointer (some ⟨b1, 0, none⟩), .pointer (some ⟨b2, 0, none⟩)] W fun e w' => e = .returned (.bool !(klt k' k)) ∧ Ext W w' := by
  obtain ⟨p, rfl⟩ := hp
  have hb2 := World.block_lt_of_cell? W _ h2
  go_enter Try.func176, Try.ntmps176
  go_wp2_with fail
  refine hc.mono ?_
  rintro e w1 ⟨sl, so, rfl, hx, -⟩
  have q2 := (hx.cell hb2).trans h2
  have l2 : b2 < w1.heap.size := Nat.lt_of_lt_of_le hb2 hx.size
  have HX := Lib.hid hx
  clear hc hx h2
  go_wp2
  go_ret
  exact ⟨rfl, HX.out.alloc _ _⟩
set_option maxRecDepth 100000 in
set_option maxHeartbeats 1000000 in
theorem below_any {At : World → Prop} {nv : Value} {es : List Ent} (hc : LeafC At nv es) {w : World} (hw : At w) (k : ByteArray) : Calls Try.prog 152 #[nv, .string k] w fun e w' => e = .returned (.int .i64 (posE es k)) ∧ Ext w w' := by
  obtain ⟨pp, rfl⟩ := hc.ptr
  have hl := hc.few
  have hsr : ∀ W, Ext w W → W.cell? ⟨w.heap.size, 0, none⟩ = some (.pointer pp) → W.cell? ⟨w.heap.size + 1, 0, none⟩ = some (.string k) → Calls Try.prog 142 #[.int .i64 es.length, .func (.func 176) #[] #[.pointer (some ⟨w.heap.size, 0, none⟩), .pointer (some ⟨w.heap.size + 1, 0, none⟩)]] W (SearchPost es.length (fun i => !(klt ((es[i]?.map Prod.fst).getD ByteArray.empty) k)) W) := by
    intro W hW c1 c2
    refine search_any 176 _ _ es.length _ W (enters_of Try.func176 (by kernel_rfl) rfl) (by omega) ?_ ?_
    · intro i W' hi hW'
      obtain ⟨x, hx⟩ : ∃ x, es[i]? = some x := ⟨_, List.getElem?_eq_getElem hi⟩
      rw [hx]
      exact below1_any ((hW'.cell (World.block_lt_of_cell? W _ c1)).trans c1) ((hW'.cell (World.block_lt_of_cell? W _ c2)).trans c2) ⟨_, rfl⟩ (hc.entry W' (hc.ext (hc.ext hw hW) hW') i x hx)
    · intro i j hij hj hpi
      by_cases hij' : i = j
      · subst hij'; exact hpi
      · obtain ⟨x, hx⟩ : ∃ x, es[i]? = some x := ⟨_, List.getElem?_eq_getElem (by omega)⟩
        obtain ⟨y, hy⟩ : ∃ y, es[j]? = some y := ⟨_, List.getElem?_eq_getElem hj⟩
        have hxy := sorted_lt hc.sorted (i := i) (j := j) (by omega) hx hy
        rw [hx] at hpi; rw [hy]
        simp only [Option.map_some, Option.getD_some, Bool.not_eq_true'] at hpi ⊢
        cases hyk : klt y.1 k
        · rfl
        · have := klt_trans hxy hyk
          rw [hpi] at this; cases this
  have HC := Lib.hid hc
  have HSR := Lib.hid hsr
  have HW := Lib.hid hw
  clear hc hsr hw
  go_enter Try.func152, Try.ntmps152
  go_wp2_with fail
  generalize hW0 : World.alloc _ _ = W0
  obtain ⟨hx0, hz0, hb0, hb1⟩ := two_blocks w _ _ _ _ W0 hW0
  have q0 : W0.cell? ⟨w.heap.size, 0, none⟩ = some (.pointer pp) := hb0.cell 0
  have HX0 := Lib.hid hx0
  have HB0 := Lib.hid hb0
  have HB1 := Lib.hid hb1
  clear hW0 hb0 hb1 hx0 hz0
  refine (HC.out.size W0 (HC.out.ext HW.out HX0.out)).mono ?_
  rintro e w1 ⟨rfl, q, rfl⟩
  clear q0
  go_wp2_with fail
  refine (HSR.out _ (HX0.out.drewN q) (HB0.out.cell 0) (HB1.out.cell 0)).mono ?_
  rintro e w1 ⟨p, rfl, hp, hlo, hhi, he1⟩
  have hpos : posE es k = p := posE_of hp (fun i e hi he => by
      have : (!(klt ((es[i]?.map Prod.fst).getD ByteArray.empty) k)) = false := hlo i hi
      rw [he] at this
      simpa using this) (fun e he => by
      have : (!(klt ((es[p]?.map Prod.fst).getD ByteArray.empty) k)) = true := hhi p (Nat.le_refl _) (List.getElem?_eq_some_iff.1 he).1
      rw [he] at this
      simpa using this)
  have HE := Lib.hid ((HX0.out.drewN q).trans he1)
  have HP := Lib.hid hpos
  clear hlo hhi hpos he1
  go_wp2_with fail
  go_ret
  exact ⟨by rw [HP.out]; rfl, HE.out⟩
end Go.Proofs.Ytpapoalgocmlaaa
namespace Go.Proofs.Ytpapoalgocmlaaa
open Go.RowKit
set_option linter.unusedVariables false
set_option linter.unusedSimpArgs false

theorem rank_leaf {At : World → Prop} {nv : Value} {es : List Ent} (hc : LeafC At nv es) {w : World} (hw : At w) (k : ByteArray) : Calls Try.prog 111 #[nv, .string k] w fun e w' => e = .returned (.int .i64 (posE es k)) ∧ Ext w w' := by
  obtain ⟨pp, rfl⟩ := hc.ptr
  have hh := hc.height w hw
  have hb := below_any hc hw k
  have HB := Lib.hid hb
  clear hc hw hb
  go_enter Try.func111, Try.ntmps111
  go_wp2_with fail
  refine hh.mono ?_
  rintro e w1 ⟨rfl, rfl⟩
  go_wp2_with fail
  refine HB.out.mono ?_
  rintro e w1 ⟨rfl, hx⟩
  have HX := Lib.hid hx
  clear hx
  go_wp2_with fail
  go_ret
  exact ⟨rfl, HX.out⟩
theorem take_all_below {h : Nat} {ks : List (PT h)} {kid : PT h} {j : Nat} {k : ByteArray} (hk : ks[j]? = some kid) (h1 : ∀ e ∈ (ks.take j).flatMap (ents h), klt e.1 k = true) (h2 : ∀ e ∈ ents h kid, klt e.1 k = true) : ∀ e ∈ (ks.take (j + 1)).flatMap (ents h), klt e.1 k = true := by
  intro e he
  rw [List.take_add_one, hk] at he
  simp only [Option.toList_some, List.flatMap_append, List.flatMap_cons, List.flatMap_nil, List.append_nil, List.mem_append] at he
  rcases he with he | he
  · exact h1 e he
  · exact h2 e he
theorem kid_ne {h : Nat} {t : PT (h + 1)} (ok : OkT (h + 1) t) {kid : PT h} (hk : kid ∈ t.2) : ents h kid ≠ [] := by
  have h1 := ok.2.2 kid hk
  have := ents_pos h kid h1.1 (by omega)
  intro e; rw [e] at this; simp at this
set_option maxRecDepth 100000 in
set_option maxHeartbeats 1000000 in
theorem rank_succ {h : Nat} {k : ByteArray} {F : Nat → Prop} (ih : ∀ (t : PT h) (w : World), NodeAt F h t w → OkT h t → Sorted (ents h t) → (ents h t).length ≤ 1000000 → Calls Try.prog 111 #[ptr h t, .string k] w fun e w' => e = .returned (.int .i64 (posE (ents h t) k)) ∧ Ext w w')
    {t : PT (h + 1)} {w : World} (hn : NodeAt F (h + 1) t w) (ok : OkT (h + 1) t) (hs : Sorted (ents (h + 1) t)) (hl : (ents (h + 1) t).length ≤ 1000000) :
    Calls Try.prog 111 #[ptr (h + 1) t, .string k] w fun e w' => e = .returned (.int .i64 (posE (ents (h + 1) t) k)) ∧ Ext w w' := by
  have hlen8 := ok.2.1
  have hlen2 := ok.1
  have hh := height_any hn.1
  have hkc := kids_any hn.1 (by omega)
  have hlt : h + 1 < 1000000 := Nat.lt_of_lt_of_le (height_lt (h + 1) t ok (by show 1 ≤ t.2.length; omega)) hl
  have HIH := Lib.hid ih
  have HN := Lib.hid hn
  have HOK := Lib.hid ok
  have HS := Lib.hid hs
  have HL := Lib.hid hl
  have hne : (((h + 1 : Nat) : Int) == 0) = false := beq_eq_false_iff_ne.2 (by omega)
  have hne' : ((h : Int) + 1 == 0) = false := beq_eq_false_iff_ne.2 (by omega)
  clear ih hn ok hs hl
  go_enter Try.func111, Try.ntmps111
  go_wp2_with fail
  refine hh.mono ?_
  rintro e w1 ⟨rfl, rfl⟩
  go_wp2_with fail
  refine hkc.mono ?_
  rintro e w3 ⟨sk, rfl, hown, hx3⟩
  have hrd : Rd w3 (Lt w3.heap.size) 1 sk t.2.length (ptrs h t.2) := (Rd.of_own hown).mono fun i hi => hi.2
  obtain ⟨g, cap, rfl, hbg, hnc, hcm, hfil⟩ := own_block hown (by omega)
  have hgl := hfil.lt
  have HRD := Lib.hid hrd
  have HX3 := Lib.hid hx3
  clear hown hrd hx3 hfil hkc hh
  go_wp2_with fail
  go_loopw [5, 17] (fun ah i wr => ∃ (j a : Nat), j ≤ t.2.length ∧ i = .int .i64 j ∧ ah = .int .i64 a ∧ Hid (a = ((t.2.take j).flatMap (ents h)).length ∧ ∀ e ∈ (t.2.take j).flatMap (ents h), klt e.1 k = true) ∧ Ext w3 wr) (fun _ i _ => t.2.length - (intOf i).toNat)
  case atStart => exact ⟨0, 0, Nat.zero_le _, rfl, rfl, Lib.hid ⟨rfl, fun e he => by simp at he⟩, Ext.refl _⟩
  case round =>
    obtain ⟨j, a, hj, rfl, rfl, HP, hx⟩ := hrel
    have HX := Lib.hid hx
    by_cases hlt : j < t.2.length
    · obtain ⟨kid, hkid⟩ : ∃ kid, t.2[j]? = some kid := ⟨_, List.getElem?_eq_getElem hlt⟩
      obtain ⟨b, o, hba, -, -, -, hbc⟩ := HRD.out.ptr_at hkid
      obtain ⟨rfl, rfl⟩ : g = b ∧ 0 = o := by simpa using hba
      have kc : wr.cell? ⟨g, j, none⟩ = some (ptr h kid) := by rw [hx.cell hgl]; simpa using hbc
      have hjl : (j : Int) < (t.2.length : Int) := by omega
      have hkm := List.mem_of_getElem? hkid
      have hkn : NodeAt F h kid wr := ⟨(HN.out.ext (HX3.out.trans hx)).1.2.choose_spec.2.2 kid hkm, (HN.out.ext (HX3.out.trans hx)).2⟩
      have hks : Sorted (ents h kid) := kid_sorted HS.out kid hkm
      have hmid := take_mid hkid
      have hall : ents (h + 1) t = (t.2.take j).flatMap (ents h) ++ (ents h kid ++ (t.2.drop (j + 1)).flatMap (ents h)) := by
        show t.2.flatMap (ents h) = _
        conv => lhs; rw [hmid]
        simp only [List.flatMap_append, List.flatMap_cons]
      have hlk : (ents h kid).length ≤ 1000000 := by have := HL.out; rw [hall] at this; simp only [List.length_append] at this; omega
      have hla : a + (ents h kid).length ≤ 1000000 := by have := HL.out; rw [hall] at this; simp only [List.length_append] at this; have := HP.out.1; omega
      have hlast := last_any hkn.1
      have hcount := count_any hkn.1
      have hih := HIH.out kid wr hkn (HOK.out.2.2 kid hkm).1 hks hlk
      have HK := Lib.hid hkid
      have HKS := Lib.hid hks
      have HALL := Lib.hid hall
      have hpk : posE (ents h kid) k ≤ (ents h kid).length := posE_le _ _
      clear hkid hba hbc hkn hks hmid hall hx
      cases hlb : klt (lastK (ents h kid)) k with
      | true =>
        have hb1 : Op.bytesLess (lastK (ents h kid)).toList k.toList = true := hlb
        have hw1 : IntKind.i64.wrap ((a : Int) + ((ents h kid).length : Int)) = (a : Int) + ((ents h kid).length : Int) := by rw [IntKind.wrap_i64]; omega
        clear hih
        go_wp2_with fail
        refine hlast.mono ?_
        rintro e w4 ⟨rfl, rfl⟩
        go_wp2_with fail
        refine hcount.mono ?_
        rintro e w4 ⟨rfl, rfl⟩
        go_wp2_with fail
        go_roundw
        case rel =>
          refine ⟨j + 1, a + (ents h kid).length, hlt, by go_num, by simp, Lib.hid ⟨?_, take_all_below HK.out HP.out.2 (lt_of_last HKS.out hlb)⟩, HX.out⟩
          rw [List.take_add_one, HK.out]
          simp [HP.out.1]
        case measure => simp [intOf]; omega
      | false =>
        have hb1 : Op.bytesLess (lastK (ents h kid)).toList k.toList = false := hlb
        obtain ⟨p, hp⟩ : ∃ p, posE (ents h kid) k = p := ⟨_, rfl⟩
        rw [hp] at hih hpk
        have hw1 : IntKind.i64.wrap ((a : Int) + (p : Int)) = (a : Int) + (p : Int) := by rw [IntKind.wrap_i64]; omega
        have hres : posE (ents (h + 1) t) k = a + p := by
          obtain ⟨e, he, hel⟩ := last_mem (kid_ne HOK.out hkm)
          rw [HALL.out, posE_app HP.out.2, posE_stop ⟨e, he, by rw [hel]; exact hlb⟩, hp, HP.out.1]
        have HR := Lib.hid hres
        clear hcount hres hp
        go_wp2_with fail
        refine hlast.mono ?_
        rintro e w4 ⟨rfl, rfl⟩
        go_wp2_with fail
        refine hih.mono ?_
        rintro e w4 ⟨rfl, hx4⟩
        have HX4 := Lib.hid hx4
        clear hx4
        go_wp2_with fail
        go_ret
        exact ⟨by rw [HR.out]; simp, (HX3.out.trans HX.out).trans HX4.out⟩
    · obtain rfl : j = t.2.length := by omega
      have hres : posE (ents (h + 1) t) k = a := by
        have h1 := HP.out
        rw [List.take_length] at h1
        rw [h1.1]
        exact posE_all h1.2
      have HR := Lib.hid hres
      clear hres
      go_wp2_with fail
      go_ret
      exact ⟨by rw [HR.out]; rfl, HX3.out.trans HX.out⟩
theorem rank_any {k : ByteArray} {F : Nat → Prop} : ∀ (h : Nat) (t : PT h) (w : World), NodeAt F h t w → OkT h t → Sorted (ents h t) → (ents h t).length ≤ 1000000 → Calls Try.prog 111 #[ptr h t, .string k] w fun e w' => e = .returned (.int .i64 (posE (ents h t) k)) ∧ Ext w w'
  | 0, t, w, hn, ok, hs, _ => rank_leaf (leafC_node ok hs) hn k
  | h + 1, t, w, hn, ok, hs, hl => rank_succ (fun t w a b c d => rank_any h t w a b c d) hn ok hs hl
end Go.Proofs.Ytpapoalgocmlaaa
namespace Go.Proofs.Ytpapoalgocmlaaa
open Go.RowKit
set_option linter.unusedVariables false
set_option linter.unusedSimpArgs false

/-- The entry behind i others. -/
def getI (es : List Ent) (i : Int) : Option Ent := if i < 0 then none else es[i.toNat]?
abbrev noE : Ent := (ByteArray.empty, zeroV)
def AtIPost (o : Option Ent) (w : World) (e : Ending) (w' : World) : Prop :=
  ∃ sl so, e = .returned (.tuple #[aggE (o.getD noE).1 (o.getD noE).2 sl so, .bool o.isSome]) ∧ Ext w w' ∧ RV w' (In w.heap.size w'.heap.size) (o.getD noE).2 sl so
theorem EntryPost.atI {x : Ent} {w : World} {e : Ending} {w' : World} (h : EntryPost x.1 x.2 w e w') : AtIPost (some x) w e w' := h
theorem atIPost_none {w : World} {e : Ending} {w' : World} (h : e = .returned (.tuple #[aggE ByteArray.empty zeroV Sl.none Sl.none, .bool false]) ∧ Ext w w') : AtIPost none w e w' :=
  ⟨Sl.none, Sl.none, h.1, h.2, RV.flat _ _ _ _ _ _ (by decide) (by decide) (by decide)⟩
theorem atIPost_end {w w3 : World} {b lo : Nat} {o : Option Ent} {sl so : Sl} (hE : Ext w w3) (hb : w.heap.size ≤ b) (hlt : b < lo) (hr : RV w3 (In lo w3.heap.size) (o.getD noE).2 sl so) :
    AtIPost o w (.returned (.tuple #[aggE (o.getD noE).1 (o.getD noE).2 sl so, .bool o.isSome])) (putM w3 b 0 (o.getD noE).1 (o.getD noE).2 sl so) := by
  refine ⟨sl, so, rfl, hE.putM hb _ _ _ _ _, ?_⟩
  rw [putM_size]
  exact (hr.agree (putM_agree w3 b 0 _ _ sl so (F := In lo w3.heap.size) (fun h => by have := h.1; omega))).mono fun i hi => ⟨by have := hi.1; omega, hi.2⟩

/-- Entry of an inner node: none. -/
theorem entry_inner {w : World} {F : Nat → Prop} {h : Nat} {t : PT (h + 1)} (hn : IsN w F (h + 1) t) {i : Int} (hi : 0 ≤ i) :
    Calls Try.prog 145 #[ptr (h + 1) t, .int .i64 i] w fun e w' => e = .returned (.tuple #[aggE ByteArray.empty zeroV Sl.none Sl.none, .bool false]) ∧ Ext w w' := by
  obtain ⟨-, s, hb, -, -⟩ := hn
  have h0 : w.cell? ⟨addr (h + 1) t, 0, none⟩ = some (.slice none 0 0) := hb.c7.1
  have hbl : addr (h + 1) t < w.heap.size := hb.lt
  have hge : decide ((0 : Int) ≤ i) = true := by simp; omega
  have hin : decide (i < 0) = false := by simp; omega
  clear hb hi
  go_enter Try.func145, Try.ntmps145
  go_wp2_with fail
  refine bodyPost_ret (v := .tuple #[aggE ByteArray.empty zeroV Sl.none Sl.none, .bool false]) (by simp [results, Try.results145, go_sem]; exact ⟨rfl, rfl, rfl, rfl, rfl, rfl, rfl⟩) rfl ⟨rfl, (Ext.refl w).alloc _ _⟩
abbrev zero7 : Array Value := #[.string ByteArray.empty, .int .i64 0, .bool false, .int .i64 0, .string ByteArray.empty, .slice none 0 0, .slice none 0 0]
theorem LeafC.get {At : World → Prop} {nv : Value} {es : List Ent} (hc : LeafC At nv es) {w : World} (hw : At w) (i : Int) : Calls Try.prog 145 #[nv, .int .i64 i] w (AtIPost (getI es i) w) := by
  unfold getI
  split
  · exact (hc.none w hw i (.inl ‹_›)).mono fun e w' h => atIPost_none h
  · cases hx : es[i.toNat]? with
    | none => exact (hc.none w hw i (.inr (by have := List.getElem?_eq_none_iff.1 hx; omega))).mono fun e w' h => atIPost_none h
    | some x =>
      have := hc.entry w hw i.toNat x hx
      rw [Int.toNat_of_nonneg (by omega)] at this
      exact this.mono fun e w' h => h.atI
set_option maxRecDepth 100000 in
set_option maxHeartbeats 1000000 in
theorem at_leaf {At : World → Prop} {nv : Value} {es : List Ent} (hc : LeafC At nv es) {w : World} (hw : At w) (i : Int) : Calls Try.prog 110 #[nv, .int .i64 i] w (AtIPost (getI es i) w) := by
  obtain ⟨pp, rfl⟩ := hc.ptr
  have hx0 : Ext w (w.alloc (.cells zero7 56)) := (Ext.refl w).alloc _ _
  have hkc := hc.kids _ (hc.ext hw hx0)
  have hge := hc.get (hc.ext hw hx0) i
  have hb0 := Blk.new w 56 zero7
  generalize getI es i = o at *
  have HX0 := Lib.hid hx0
  have HGE := Lib.hid hge
  have HB0 := Lib.hid hb0
  clear hc hw hge hb0 hx0
  go_enter Try.func110, Try.ntmps110
  go_wp2_with fail
  refine hkc.mono ?_
  rintro e w1 ⟨rfl, rfl⟩
  go_wp2_with fail
  go_loopw [1, 11] (fun v j wr => v = .int .i64 i ∧ j = .int .i64 0 ∧ wr = w.alloc (.cells zero7 56)) (fun _ _ _ => 0)
  case atStart => exact ⟨rfl, rfl, rfl⟩
  case round =>
    obtain ⟨rfl, rfl, rfl⟩ := hrel
    go_wp2_with fail
    refine HGE.out.mono ?_
    rintro e w2 ⟨sl, so, rfl, hx2, hrv⟩
    have hb := HB0.out.ext hx2
    obtain ⟨c0, c1, c2, c3, c4, c5, c6⟩ := hb.c7
    have f2 := hb.frozen
    have l2 := hb.lt
    have HX2 := Lib.hid (HX0.out.trans hx2)
    have HRV := Lib.hid hrv
    clear hb hx2 hrv
    go_wp2_with fail
    refine bodyPost_ret (v := .tuple #[aggE (o.getD noE).1 (o.getD noE).2 sl so, .bool o.isSome]) (by simp [results, Try.results110, go_sem, c0, c1, c2, c3, c4, c5, c6]) rfl ?_
    exact atIPost_end HX2.out (Nat.le_refl _) (by simp) HRV.out
theorem getI_kid {A B C : List Ent} {i : Int} (h0 : A = [] ∨ (A.length : Int) ≤ i) (h1 : i - A.length < B.length) : getI (A ++ (B ++ C)) i = getI B (i - A.length) := by
  unfold getI
  by_cases hn : i < 0
  · have hA : A = [] := by
      rcases h0 with h | h
      · exact h
      · omega
    subst hA
    rw [if_pos hn, if_pos (by simpa using hn)]
  · have hge : (A.length : Int) ≤ i := by
      rcases h0 with h | h
      · subst h; simpa using Int.not_lt.1 hn
      · exact h
    rw [if_neg hn, if_neg (by omega), List.getElem?_append_right (by omega), List.getElem?_append_left (by omega)]
    congr 1; omega
theorem getI_none {es : List Ent} {i : Int} (h : (es.length : Int) ≤ i) : getI es i = none := by
  unfold getI
  split
  · rfl
  · exact List.getElem?_eq_none (by omega)
set_option maxRecDepth 100000 in
set_option maxHeartbeats 1000000 in
theorem at_succ {h : Nat} {F : Nat → Prop} (ih : ∀ (t : PT h) (w : World) (i : Int), -9223372036854775808 ≤ i → i ≤ 9223372036854775807 → NodeAt F h t w → OkT h t → Sorted (ents h t) → (ents h t).length ≤ 1000000 → Calls Try.prog 110 #[ptr h t, .int .i64 i] w (AtIPost (getI (ents h t) i) w))
    {t : PT (h + 1)} {w : World} {i : Int} (hi0 : -9223372036854775808 ≤ i) (hi1 : i ≤ 9223372036854775807) (hn : NodeAt F (h + 1) t w) (ok : OkT (h + 1) t) (hs : Sorted (ents (h + 1) t)) (hl : (ents (h + 1) t).length ≤ 1000000) :
    Calls Try.prog 110 #[ptr (h + 1) t, .int .i64 i] w (AtIPost (getI (ents (h + 1) t) i) w) := by
  have hlen8 := ok.2.1
  have hlen2 := ok.1
  have hx0 : Ext w (w.alloc (.cells zero7 56)) := (Ext.refl w).alloc _ _
  have hb0 := Blk.new w 56 zero7
  have hkc := kids_any (hn.ext hx0).1 (by omega)
  obtain ⟨o, ho⟩ : ∃ o, getI (ents (h + 1) t) i = o := ⟨_, rfl⟩
  rw [ho]
  have HO := Lib.hid ho
  have HIH := Lib.hid ih
  have HN := Lib.hid hn
  have HOK := Lib.hid ok
  have HS := Lib.hid hs
  have HL := Lib.hid hl
  have HX0 := Lib.hid hx0
  have HB0 := Lib.hid hb0
  clear ih hn ok hs hl hx0 hb0 ho
  go_enter Try.func110, Try.ntmps110
  go_wp2_with fail
  refine hkc.mono ?_
  rintro e w3 ⟨sk, rfl, hown, hx3⟩
  have hrd : Rd w3 (Lt w3.heap.size) 1 sk t.2.length (ptrs h t.2) := (Rd.of_own hown).mono fun i hi => hi.2
  obtain ⟨g, cap, rfl, hbg, hnc, hcm, hfil⟩ := own_block hown (by omega)
  have hgl := hfil.lt
  have HRD := Lib.hid hrd
  have HX3 := Lib.hid (HX0.out.trans hx3)
  have HB3 := Lib.hid (HB0.out.ext hx3)
  clear hown hrd hx3 hfil hkc HB0
  go_wp2_with fail
  go_loopw [1, 11] (fun v ix wr => ∃ (j a : Nat), j ≤ t.2.length ∧ ix = .int .i64 j ∧ v = .int .i64 (i - (a : Int)) ∧ a ≤ 1000000 ∧ Hid (a = ((t.2.take j).flatMap (ents h)).length ∧ (j = 0 ∨ (a : Int) ≤ i)) ∧ Ext w3 wr) (fun _ ix _ => t.2.length - (intOf ix).toNat)
  case atStart => exact ⟨0, 0, Nat.zero_le _, rfl, by simp, Nat.zero_le _, Lib.hid ⟨rfl, .inl rfl⟩, Ext.refl _⟩
  case round =>
    obtain ⟨j, a, hj, rfl, rfl, ha6, HP, hx⟩ := hrel
    have HX := Lib.hid hx
    by_cases hlt : j < t.2.length
    · obtain ⟨kid, hkid⟩ : ∃ kid, t.2[j]? = some kid := ⟨_, List.getElem?_eq_getElem hlt⟩
      obtain ⟨b, o', hba, -, -, -, hbc⟩ := HRD.out.ptr_at hkid
      obtain ⟨rfl, rfl⟩ : g = b ∧ 0 = o' := by simpa using hba
      have kc : wr.cell? ⟨g, j, none⟩ = some (ptr h kid) := by rw [hx.cell hgl]; simpa using hbc
      have hjl : (j : Int) < (t.2.length : Int) := by omega
      have hkm := List.mem_of_getElem? hkid
      have hkn : NodeAt F h kid wr := ⟨(HN.out.ext (HX3.out.trans hx)).1.2.choose_spec.2.2 kid hkm, (HN.out.ext (HX3.out.trans hx)).2⟩
      have hks : Sorted (ents h kid) := kid_sorted HS.out kid hkm
      have hmid := take_mid hkid
      have hall : ents (h + 1) t = (t.2.take j).flatMap (ents h) ++ (ents h kid ++ (t.2.drop (j + 1)).flatMap (ents h)) := by
        show t.2.flatMap (ents h) = _
        conv => lhs; rw [hmid]
        simp only [List.flatMap_append, List.flatMap_cons]
      have hlk : (ents h kid).length ≤ 1000000 := by have := HL.out; rw [hall] at this; simp only [List.length_append] at this; omega
      have hla : a + (ents h kid).length ≤ 1000000 := by have := HL.out; rw [hall] at this; simp only [List.length_append] at this; have := HP.out.1; omega
      have hcount := count_any hkn.1
      have hA : (t.2.take j).flatMap (ents h) = [] ∨ (((t.2.take j).flatMap (ents h)).length : Int) ≤ i := by
        rcases HP.out.2 with h | h
        · subst h; exact .inl rfl
        · rw [HP.out.1] at h; exact .inr h
      have hi2 : -9223372036854775808 ≤ i - (a : Int) := by
        rcases hA with h | h
        · rw [h] at HP; have := HP.out.1; simp at this; omega
        · rw [← HP.out.1] at h; omega
      have HA := Lib.hid hA
      have HKN := Lib.hid hkn
      have HK := Lib.hid hkid
      have HKS := Lib.hid hks
      have HALL := Lib.hid hall
      clear hkid hba hbc hkn hks hmid hall hx hA
      by_cases hlc : i - (a : Int) < ((ents h kid).length : Int)
      · have hih := HIH.out kid wr (i - (a : Int)) hi2 (by omega) HKN.out (HOK.out.2.2 kid hkm).1 HKS.out hlk
        have hres : getI (ents h kid) (i - (a : Int)) = o := by
          rw [← HO.out, HALL.out, HP.out.1]
          exact (getI_kid HA.out (by rw [← HP.out.1]; exact hlc)).symm
        rw [hres] at hih
        have HH := Lib.hid hih
        clear hih hres
        go_wp2_with fail
        refine hcount.mono ?_
        rintro e w4 ⟨rfl, rfl⟩
        go_wp2_with fail
        refine HH.out.mono ?_
        rintro e w4 ⟨sl, so, rfl, hx4, hrv⟩
        have hb := (HB3.out.ext HX.out).ext hx4
        obtain ⟨c0, c1, c2, c3, c4, c5, c6⟩ := hb.c7
        have f2 := hb.frozen
        have l2 := hb.lt
        have HX4 := Lib.hid ((HX3.out.trans HX.out).trans hx4)
        have HRV := Lib.hid hrv
        have hsz : w.heap.size < wr.heap.size := (HB3.out.ext HX.out).lt
        clear hb hx4 hrv HH
        go_wp2_with fail
        refine bodyPost_ret (v := .tuple #[aggE (o.getD noE).1 (o.getD noE).2 sl so, .bool o.isSome]) (by simp [results, Try.results110, go_sem, c0, c1, c2, c3, c4, c5, c6]) rfl ?_
        exact atIPost_end HX4.out (Nat.le_refl _) hsz HRV.out
      · have hw1 : IntKind.i64.wrap (i - (a : Int) - ((ents h kid).length : Int)) = i - (a : Int) - ((ents h kid).length : Int) := by rw [IntKind.wrap_i64]; omega
        clear HKN
        go_wp2_with fail
        refine hcount.mono ?_
        rintro e w4 ⟨rfl, rfl⟩
        go_wp2_with fail
        refine hcount.mono ?_
        rintro e w4 ⟨rfl, rfl⟩
        go_wp2_with fail
        go_roundw
        case rel =>
          refine ⟨j + 1, a + (ents h kid).length, hlt, by go_num, by simp; omega, hla, Lib.hid ⟨?_, .inr (by omega)⟩, HX.out⟩
          rw [List.take_add_one, HK.out]
          simp [HP.out.1]
        case measure => simp [intOf]; omega
    · obtain rfl : j = t.2.length := by omega
      have hai : (a : Int) ≤ i := by
        rcases HP.out.2 with h | h
        · omega
        · exact h
      have hres : o = none := by
        rw [← HO.out]
        refine getI_none ?_
        have h1 := HP.out.1
        rw [List.take_length] at h1
        show ((t.2.flatMap (ents h)).length : Int) ≤ i
        omega
      subst hres
      have hen := entry_inner (HN.out.ext (HX3.out.trans hx)).1 (i := i - (a : Int)) (by omega)
      have HEN := Lib.hid hen
      clear hen hx
      go_wp2_with fail
      refine HEN.out.mono ?_
      rintro e w4 ⟨rfl, hx4⟩
      have hb := (HB3.out.ext HX.out).ext hx4
      obtain ⟨c0, c1, c2, c3, c4, c5, c6⟩ := hb.c7
      have f2 := hb.frozen
      have l2 := hb.lt
      have HX4 := Lib.hid ((HX3.out.trans HX.out).trans hx4)
      have hsz : w.heap.size < wr.heap.size := (HB3.out.ext HX.out).lt
      clear hb hx4
      go_wp2_with fail
      refine bodyPost_ret (v := .tuple #[aggE noE.1 noE.2 Sl.none Sl.none, .bool false]) (by simp [results, Try.results110, go_sem, c0, c1, c2, c3, c4, c5, c6]; done) rfl ?_
      exact atIPost_end (o := none) HX4.out (Nat.le_refl _) hsz (RV.flat _ _ _ _ _ _ (by decide) (by decide) (by decide))
theorem atN_any {F : Nat → Prop} : ∀ (h : Nat) (t : PT h) (w : World) (i : Int), -9223372036854775808 ≤ i → i ≤ 9223372036854775807 → NodeAt F h t w → OkT h t → Sorted (ents h t) → (ents h t).length ≤ 1000000 → Calls Try.prog 110 #[ptr h t, .int .i64 i] w (AtIPost (getI (ents h t) i) w)
  | 0, t, w, i, _, _, hn, ok, hs, _ => at_leaf (leafC_node ok hs) hn i
  | h + 1, t, w, i, h0, h1, hn, ok, hs, hl => at_succ (fun t w i a b c d e f => atN_any h t w i a b c d e f) h0 h1 hn ok hs hl
/-- A tree reads, below the world's end. -/
def TreeAt (F : Nat → Prop) (T : RT) (W : World) : Prop := IsT W F T ∧ ∀ b, F b → b < W.heap.size
theorem TreeAt.ext {F : Nat → Prop} {T : RT} {W W' : World} (a : TreeAt F T W) (k : Ext W W') : TreeAt F T W' := ⟨a.1.agree (k.agree a.2), fun b hb => Nat.lt_of_lt_of_le (a.2 b hb) k.size⟩
theorem rankR_any {F : Nat → Prop} {T : RT} {w : World} (hT : TreeAt F T w) (ok : OkR T) (hl : (entsT T).length ≤ 1000000) (k : ByteArray) : Calls Try.prog 111 #[rootV T, .string k] w fun e w' => e = .returned (.int .i64 (posE (entsT T) k)) ∧ Ext w w' := by
  match T, hT, ok, hl with
  | none, _, _, _ => exact rank_leaf leafC_nil trivial k
  | some ⟨h, t⟩, hT, ok, hl => exact rank_any h t w hT ok.1 ok.2.2 hl
theorem atR_any {F : Nat → Prop} {T : RT} {w : World} (hT : TreeAt F T w) (ok : OkR T) (hl : (entsT T).length ≤ 1000000) {i : Int} (h0 : -9223372036854775808 ≤ i) (h1 : i ≤ 9223372036854775807) : Calls Try.prog 110 #[rootV T, .int .i64 i] w (AtIPost (getI (entsT T) i) w) := by
  match T, hT, ok, hl with
  | none, _, _, _ => exact at_leaf leafC_nil trivial i
  | some ⟨h, t⟩, hT, ok, hl => exact atN_any h t w i h0 h1 hT ok.1 ok.2.2 hl
end Go.Proofs.Ytpapoalgocmlaaa
namespace Go.Proofs.Ytpapoalgocmlaaa
open Go.RowKit
set_option linter.unusedVariables false
set_option linter.unusedSimpArgs false

theorem treeRank_any {F : Nat → Prop} {T : RT} {w : World} (hT : TreeAt F T w) (ok : OkR T) (hl : (entsT T).length ≤ 1000000) (k : ByteArray) : Calls Try.prog 62 #[treeV T, .string k] w fun e w' => e = .returned (.int .i64 (posE (entsT T) k)) ∧ Ext w w' := by
  have hr : ∀ W, Ext w W → Calls Try.prog 111 #[rootV T, .string k] W fun e w' => e = .returned (.int .i64 (posE (entsT T) k)) ∧ Ext W w' := fun W hW => rankR_any (hT.ext hW) ok hl k
  obtain ⟨p, hp⟩ := rootV_ptr T
  rw [treeV, hp]
  rw [hp] at hr
  have HR := Lib.hid hr
  clear hT ok hr hp
  go_enter Try.func62, Try.ntmps62
  go_wp2_with fail
  refine (treeRoot_any _ _).mono ?_
  rintro e w1 ⟨rfl, hx1⟩
  have HX := Lib.hid (((Ext.refl w).alloc _ _).trans hx1)
  clear hx1
  go_wp2_with fail
  refine (HR.out w1 HX.out).mono ?_
  rintro e w2 ⟨rfl, hx2⟩
  have HX2 := Lib.hid (HX.out.trans hx2)
  clear hx2
  go_wp2_with fail
  go_ret
  exact ⟨rfl, HX2.out⟩
set_option maxRecDepth 100000 in
set_option maxHeartbeats 1000000 in
theorem treeAtI_any {F : Nat → Prop} {T : RT} {w : World} (hT : TreeAt F T w) (ok : OkR T) (hl : (entsT T).length ≤ 1000000) {i : Int} (h0 : -9223372036854775808 ≤ i) (h1 : i ≤ 9223372036854775807) : Calls Try.prog 61 #[treeV T, .int .i64 i] w (AtIPost (getI (entsT T) i) w) := by
  have hr : ∀ W, Ext w W → Calls Try.prog 110 #[rootV T, .int .i64 i] W (AtIPost (getI (entsT T) i) W) := fun W hW => atR_any (hT.ext hW) ok hl h0 h1
  obtain ⟨p, hp⟩ := rootV_ptr T
  rw [treeV, hp]
  rw [hp] at hr
  generalize getI (entsT T) i = o at *
  have HR := Lib.hid hr
  clear hT ok hr hp hl h0 h1
  go_enter Try.func61, Try.ntmps61
  go_wp2_with fail
  generalize hW0 : World.alloc (World.alloc _ _) _ = W0
  obtain ⟨hx0, hz0, hb0, hb1⟩ := two_blocks w _ _ _ _ W0 hW0
  have q0 : W0.cell? ⟨w.heap.size, 0, none⟩ = some (.pointer p) := hb0.cell 0
  have HX0 := Lib.hid hx0
  have HB1 := Lib.hid hb1
  have HZ0 := Lib.hid hz0
  clear hW0 hb0 hb1 hx0 hz0
  refine (treeRoot_any _ _).mono ?_
  rintro e w1 ⟨rfl, hx1⟩
  have HX := Lib.hid (HX0.out.trans hx1)
  have HB := Lib.hid (HB1.out.ext hx1)
  have hsz := hx1.size
  clear hx1 q0
  go_wp2_with fail
  refine (HR.out w1 HX.out).mono ?_
  rintro e w2 ⟨sl, so, rfl, hx2, hrv⟩
  have hb := HB.out.ext hx2
  obtain ⟨c0, c1, c2, c3, c4, c5, c6⟩ := hb.c7
  have f2 := hb.frozen
  have l2 := hb.lt
  have HX2 := Lib.hid (HX.out.trans hx2)
  have HRV := Lib.hid hrv
  clear hb hx2 hrv
  go_wp2_with fail
  refine bodyPost_ret (v := .tuple #[aggE (o.getD noE).1 (o.getD noE).2 sl so, .bool o.isSome]) (by simp [results, Try.results61, go_sem, c0, c1, c2, c3, c4, c5, c6]) rfl ?_
  exact atIPost_end HX2.out (Nat.le_succ _) (by have := HZ0.out; omega) HRV.out
set_option maxRecDepth 100000 in
set_option maxHeartbeats 2000000 in
theorem treeBefore_any {F : Nat → Prop} {T : RT} {w : World} (hT : TreeAt F T w) (ok : OkR T) (hl : (entsT T).length ≤ 1000000) (k : ByteArray) : Calls Try.prog 60 #[treeV T, .string k] w (AtIPost (getI (entsT T) ((posE (entsT T) k : Int) - 1)) w) := by
  have hp0 := posE_le (entsT T) k
  have hr : ∀ W, Ext w W → Calls Try.prog 62 #[treeV T, .string k] W fun e w' => e = .returned (.int .i64 (posE (entsT T) k)) ∧ Ext W w' := fun W hW => treeRank_any (hT.ext hW) ok hl k
  have ha : ∀ W, Ext w W → Calls Try.prog 61 #[treeV T, .int .i64 ((posE (entsT T) k : Int) - 1)] W (AtIPost (getI (entsT T) ((posE (entsT T) k : Int) - 1)) W) := fun W hW => treeAtI_any (hT.ext hW) ok hl (by omega) (by omega)
  obtain ⟨p, hp⟩ := rootV_ptr T
  rw [treeV, hp]
  rw [treeV, hp] at hr ha
  obtain ⟨n, hn⟩ : ∃ n, posE (entsT T) k = n := ⟨_, rfl⟩
  rw [hn] at hr ha hp0 ⊢
  generalize getI (entsT T) ((n : Int) - 1) = o at *
  have HR := Lib.hid hr
  have HA := Lib.hid ha
  have hw1 : IntKind.i64.wrap ((n : Int) - 1) = (n : Int) - 1 := by rw [IntKind.wrap_i64]; omega
  clear hT ok hr hp ha hn
  go_enter Try.func60, Try.ntmps60
  go_wp2_with fail
  generalize hW0 : World.alloc (World.alloc _ _) _ = W0
  obtain ⟨hx0, hz0, hb0, hb1⟩ := two_blocks w _ _ _ _ W0 hW0
  have HSS := Lib.hid (show ∀ W, St (fun b => b = w.heap.size + 1) W0 W → W.cell? ⟨w.heap.size, 0, none⟩ = some (.pointer p) from fun W hW => (hW.blk hb0 (by omega)).cell 0)
  have HX0 := Lib.hid hx0
  have HB1 := Lib.hid hb1
  have HZ0 := Lib.hid hz0
  clear hW0 hb0 hb1 hx0 hz0
  refine wp_region_held_drew (S := (fun w' => St (fun b => b = w.heap.size + 1) W0 w')) (by kernel_rfl) (((St.refl _ W0).drew)) (fun hHeld => ?_)
  refine held_on (i := 0) (d := (some 6)) (v := ?_) rfl rfl (by kernel_rfl) (by kernel_rfl) (by kernel_rfl) (fun _ _ _ h => h) (by rfl) hHeld ?_ ?_
  rotate_left
  focus (intro w hSw; have hSc := HSS.out w hSw; clear hSw; go_simp; first | done | with_reducible rfl)
  try simp only [Act.put, List.setIfInBounds_toArray, List.set_cons_zero, List.set_cons_succ]
  refine held_on (i := 1) (d := (some 7)) (v := ?_) rfl rfl (by kernel_rfl) (by kernel_rfl) (by kernel_rfl) (fun _ _ _ h => h) (by rfl) hHeld ?_ ?_
  rotate_left
  focus (intro w hSw; have hSc := HSS.out w hSw; clear hSw; go_simp; first | done | with_reducible rfl)
  try simp only [Act.put, List.setIfInBounds_toArray, List.set_cons_zero, List.set_cons_succ]
  refine held_on (i := 2) (d := (some 8)) (v := ?_) rfl rfl (by kernel_rfl) (by kernel_rfl) (by kernel_rfl) (fun _ _ _ h => h) (by rfl) hHeld ?_ ?_
  rotate_left
  focus (intro w hSw; have hSc := HSS.out w hSw; clear hSw; go_simp; first | done | with_reducible rfl)
  try simp only [Act.put, List.setIfInBounds_toArray, List.set_cons_zero, List.set_cons_succ]
  refine held_call (i := 3) (by kernel_rfl) rfl (by rfl) (fun K hK => ?_)
  go_simp
  (refine (HR.out _ (HX0.out.step hHeld (fun b hb => by omega))).mono ?_; rintro e w1 ⟨rfl, hx1⟩; replace hx1 := ((Ext.refl W0).drew).trans hx1; have HX1 := Lib.hid hx1)
  refine hK.out _ _ (hx1.st _) (fun hHeld => ?_)
  clear hK K
  try simp only [Act.put, List.setIfInBounds_toArray, List.set_cons_zero, List.set_cons_succ]
  refine held_on (i := 4) (d := (some 10)) (v := ?_) rfl rfl (by kernel_rfl) (by kernel_rfl) (by kernel_rfl) (fun _ _ _ h => h) (by rfl) hHeld ?_ ?_
  rotate_left
  focus (intro w hSw; have hSc := HSS.out w hSw; clear hSw; go_simp; first | done | with_reducible rfl)
  try simp only [Act.put, List.setIfInBounds_toArray, List.set_cons_zero, List.set_cons_succ]
  refine held_call (i := 5) (by kernel_rfl) rfl (by rfl) (fun K hK => ?_)
  go_simp
  (refine (HA.out _ (HX0.out.trans HX1.out)).mono ?_; rintro e w2 ⟨sl, so, rfl, hx2, hrv⟩; have HRV := Lib.hid hrv; have HX2 := Lib.hid (HX1.out.trans hx2); have hsz := HX1.out.size; have hb := HB1.out.ext HX2.out; obtain ⟨c0, c1, c2, c3, c4, c5, c6⟩ := hb.c7; have f2 := hb.frozen; have l2 := hb.lt; clear hrv hx2 hb)
  refine hK.out _ _ (HX2.out.st _) (fun hHeld => ?_)
  clear hK K
  try simp only [Act.put, List.setIfInBounds_toArray, List.set_cons_zero, List.set_cons_succ]
  refine held_on (i := 6) (d := (some 12)) (v := ?_) rfl rfl (by kernel_rfl) (by kernel_rfl) (by kernel_rfl) (fun _ _ _ h => h) (by rfl) hHeld ?_ ?_
  rotate_left
  focus (intro w hSw; have hSc := HSS.out w hSw; clear hSw; go_simp; first | done | with_reducible rfl)
  try simp only [Act.put, List.setIfInBounds_toArray, List.set_cons_zero, List.set_cons_succ]
  refine held_on (i := 7) (d := (some 13)) (v := ?_) rfl rfl (by kernel_rfl) (by kernel_rfl) (by kernel_rfl) (fun _ _ _ h => h) (by rfl) hHeld ?_ ?_
  rotate_left
  focus (intro w hSw; have hSc := HSS.out w hSw; clear hSw; go_simp; first | done | with_reducible rfl)
  try simp only [Act.put, List.setIfInBounds_toArray, List.set_cons_zero, List.set_cons_succ]
  refine held_call (i := 8) (by kernel_rfl) rfl (by rfl) (fun K hK => ?_)
  go_simp
  skip
  refine hK.out _ _ ((((((((hHeld.set (p := ⟨w.heap.size + 1, 0, none⟩) (.inr rfl) _).set (p := ⟨w.heap.size + 1, 1, none⟩) (.inr rfl) _).set (p := ⟨w.heap.size + 1, 2, none⟩) (.inr rfl) _).set (p := ⟨w.heap.size + 1, 3, none⟩) (.inr rfl) _).set (p := ⟨w.heap.size + 1, 4, none⟩) (.inr rfl) _).set (p := ⟨w.heap.size + 1, 5, none⟩) (.inr rfl) _).set (p := ⟨w.heap.size + 1, 6, none⟩) (.inr rfl) _)) (fun hHeld => ?_)
  clear hK K
  try simp only [Act.put, List.setIfInBounds_toArray, List.set_cons_zero, List.set_cons_succ]
  refine held_on (i := 9) (d := (some 5)) (v := ?_) rfl rfl (by kernel_rfl) (by kernel_rfl) (by kernel_rfl) (fun _ _ _ h => h) (by rfl) hHeld ?_ ?_
  rotate_left
  focus (intro w hSw; have hSc := HSS.out w hSw; clear hSw; go_simp; first | done | with_reducible rfl)
  try simp only [Act.put, List.setIfInBounds_toArray, List.set_cons_zero, List.set_cons_succ]
  refine wpAnyH_done (by kernel_rfl) ?_ _
  go_wp2_with fail
  refine bodyPost_ret (v := .tuple #[aggE (o.getD noE).1 (o.getD noE).2 sl so, .bool o.isSome]) (by simp [results, Try.results60, go_sem, c0, c1, c2, c3, c4, c5, c6]) rfl ?_
  exact atIPost_end (HX0.out.trans HX2.out) (Nat.le_succ _) (by have := HZ0.out; omega) HRV.out
end Go.Proofs.Ytpapoalgocmlaaa
namespace Go.Proofs.Ytpapoalgocmlaaa
open Go.RowKit Go.Shelf
set_option linter.unusedVariables false
set_option linter.unusedSimpArgs false
attribute [local go_sem] Oper.semAt_some

abbrev encE (x : LE) : Array Value := #[.string x.k, aggV x.v x.sl x.so]
/-- What holds of an entry that is told: it is the next one of all, in new memory. -/
structure ScanG (all : List Ent) (pre : List LE) (x : LE) (W0 W1 : World) : Prop where
  at_ : all[pre.length]? = some x.ent
  pre_ : pre.map LE.ent = all.take pre.length
  val : RV W1 (In W0.heap.size W1.heap.size) x.v x.sl x.so
  key : x.k.size ≤ maxLen
/-- What a walk over some entries comes to: all of them that are within were told, or the rounds stopped it. -/
def WalkPost (lo hi : ByteArray) (op : Bool) (es all : List Ent) (pre : List LE) (J : List LE → (Nat → Prop) → World → Prop) (Jx : List LE → World → Prop) (C : Nat → Prop) (W : World) (e : Ending) (W' : World) : Prop :=
  (∃ (new : List LE) (C' : Nat → Prop) (W0 : World), (e = .returned (.bool true) ∨ (e = .returned (.bool false) ∧ ∃ x ∈ es, endI hi op x.1 = true)) ∧ J (pre ++ new) C' W0 ∧ Ext W0 W' ∧ new.map LE.ent = rangeE lo hi op es ∧ St C W W' ∧ ∀ b, C' b → C b ∨ W.heap.size ≤ b) ∨
  (e = .returned (.bool false) ∧ St C W W' ∧ ∃ pre' W0, Jx pre' W0 ∧ Ext W0 W' ∧ pre'.map LE.ent <+: all)
theorem scanG_next {all rest : List Ent} {pre new : List LE} {A : List Ent} {lo hi : ByteArray} {op : Bool} {x : LE} {B : List Ent} (hall : all = pre.map LE.ent ++ (rangeE lo hi op (A ++ x.ent :: B) ++ rest)) (hn : new.map LE.ent = rangeE lo hi op A) (h1 : klt x.k lo = false) (h2 : endI hi op x.k = false) :
    all[(pre ++ new).length]? = some x.ent ∧ (pre ++ new).map LE.ent = all.take (pre ++ new).length ∧ (new ++ [x]).map LE.ent = rangeE lo hi op (A ++ [x.ent]) := by
  have e1 : rangeE lo hi op (A ++ x.ent :: B) = rangeE lo hi op A ++ (x.ent :: rangeE lo hi op B) := by
    rw [show A ++ x.ent :: B = A ++ ([x.ent] ++ B) from rfl, rangeE_app, rangeE_app, rangeE_one (e := x.ent) h1 h2]; rfl
  rw [e1, ← hn] at hall
  have e2 : all = (pre ++ new).map LE.ent ++ (x.ent :: (rangeE lo hi op B ++ rest)) := by rw [hall]; simp
  have hl : (pre ++ new).length = ((pre ++ new).map LE.ent).length := by simp
  refine ⟨?_, ?_, ?_⟩
  · rw [e2, hl, List.getElem?_append_right (Nat.le_refl _), Nat.sub_self]; rfl
  · rw [e2, hl, List.take_left]
  · rw [List.map_append, hn, rangeE_app, List.map_cons, List.map_nil, rangeE_one (e := x.ent) h1 h2]

theorem rangeE_rest {lo hi : ByteArray} {op : Bool} {es : List Ent} (hs : Sorted es) {i : Nat} {x : Ent} (hx : es[i]? = some x) (he : endI hi op x.1 = true) : rangeE lo hi op (es.take i) = rangeE lo hi op es := by
  have hd : es.drop i = x :: es.drop (i + 1) := by
    obtain ⟨h1, rfl⟩ := List.getElem?_eq_some_iff.1 hx
    exact List.drop_eq_getElem_cons h1
  conv => rhs; rw [← List.take_append_drop i es]
  rw [rangeE_app, rangeE_above (es := es.drop i), List.append_nil]
  intro e hem
  have hsd : Sorted (es.drop i) := List.Pairwise.sublist (List.drop_sublist _ _) hs
  rw [hd] at hem hsd
  rcases List.mem_cons.1 hem with rfl | hem
  · exact he
  · exact endI_up he ((List.pairwise_cons.1 hsd).1 e hem)
theorem take_snoc_prefix {α : Type} {l : List α} {n : Nat} {x : α} (h : l[n]? = some x) : l.take n ++ [x] <+: l := by
  have e : l.take (n + 1) = l.take n ++ [x] := by rw [List.take_add_one, h]; rfl
  rw [← e]; exact List.take_prefix _ _
/-- Where a walk over a leaf's entries stands. -/
structure LeafS (lo hi : ByteArray) (op : Bool) (es : List Ent) (At : World → Prop) (pre : List LE) (J : List LE → (Nat → Prop) → World → Prop) (C : Nat → Prop) (W : World) (i : Nat) (new : List LE) (C' : Nat → Prop) (Wj wr : World) : Prop where
  j : J (pre ++ new) C' Wj
  ext : Ext Wj wr
  new_ : new.map LE.ent = rangeE lo hi op (es.take i)
  st : St C W wr
  sub : ∀ b, C' b → C b ∨ W.heap.size < b
  box : Blk wr W.heap.size 166 #[.string lo, .string hi, .bool op]
  at_ : At wr
set_option maxRecDepth 100000 in
set_option maxHeartbeats 2000000 in
theorem walkLeaf_any {At : World → Prop} {F : Nat → Prop} {nv : Value} {es : List Ent} (hc : LeafC At nv es) (hagr : ∀ W W', At W → Agree F W W' → W.heap.size ≤ W'.heap.size → At W') (hsm : ∀ e ∈ es, e.1.size ≤ maxLen) {lo hi : ByteArray} {op : Bool} {all rest : List Ent} {pre : List LE}
    {l : Nat} {J : List LE → (Nat → Prop) → World → Prop} {Jx : List LE → World → Prop} (hT : Takes Try.prog l encE (ScanG all) J Jx) {C : Nat → Prop} {W0 W : World} (hJ : J pre C W0) (hx : Ext W0 W) (hw : At W) (hF : ∀ b, F b → b < W.heap.size ∧ ¬ C b) (hall : all = pre.map LE.ent ++ (rangeE lo hi op es ++ rest)) :
    Calls Try.prog 146 #[nv, inV lo hi op, .func (.yield l) #[] #[]] W (WalkPost lo hi op es all pre J Jx C W) := by
  obtain ⟨pp, rfl⟩ := hc.ptr
  have hl := hc.few
  have hCl := hT.lt pre C W0 hJ
  have hx1 : Ext W (W.alloc (.cells #[.string lo, .string hi, .bool op] 166)) := (Ext.refl W).alloc _ _
  have hb1 := Blk.new W 166 #[.string lo, .string hi, .bool op]
  have hbe := below_any hc (hc.ext hw hx1) lo
  obtain ⟨hp1, hp2⟩ := pos_split es lo hc.sorted
  obtain ⟨p, hp⟩ : ∃ p, posE es lo = p := ⟨_, rfl⟩
  rw [hp] at hbe hp1 hp2
  have hple : p ≤ es.length := by rw [← hp]; exact posE_le _ _
  have q0 : (W.alloc (.cells #[.string lo, .string hi, .bool op] 166)).cell? ⟨W.heap.size, 0, none⟩ = some (.string lo) := hb1.cell 0
  have HC := Lib.hid hc
  have HAG := Lib.hid hagr
  have HSM := Lib.hid hsm
  have HT := Lib.hid hT
  have HJ := Lib.hid hJ
  have HX := Lib.hid hx
  have HW := Lib.hid hw
  have HF := Lib.hid hF
  have HALL := Lib.hid hall
  have HB1 := Lib.hid hb1
  have HBE := Lib.hid hbe
  have HP1 := Lib.hid hp1
  have HP2 := Lib.hid hp2
  have HX1 := Lib.hid hx1
  have HCL := Lib.hid hCl
  clear hc hagr hsm hT hJ hx hw hF hall hbe hp1 hp2 hp hb1 hx1 hCl
  refine (callsIn_wide (n := 5)).1 ?_
  refine callsIn_of_wp Try.func146 rfl trivial ?_ rfl
  simp only [Try.ntmps146, List.size_toArray, List.length_cons, List.length_nil, Nat.reduceAdd, Nat.reduceSub, Array.replicate_succ, Array.replicate_zero, List.push_toArray, List.append_toArray, List.nil_append, List.cons_append]
  gi_wp2_with fail
  refine ⟨trivial, ?_⟩
  refine (callsIn_wide.2 HBE.out).mono ?_
  rintro e w1 ⟨rfl, hx2⟩
  have HX2 := Lib.hid (HX1.out.trans hx2)
  have HB2 := Lib.hid (HB1.out.ext hx2)
  clear hx2 q0 HBE
  gi_wp2_with fail
  gi_loopw [7] (fun v wr => ∃ (i : Nat) (new : List LE) (C' : Nat → Prop) (Wj : World), v = .int .i64 i ∧ p ≤ i ∧ i ≤ es.length ∧ LeafS lo hi op es At pre J C W i new C' Wj wr) (fun v _ => es.length - (intOf v).toNat)
  case atStart => exact ⟨p, [], C, W0, rfl, Nat.le_refl _, hple, ⟨by rw [List.append_nil]; exact HJ.out, HX.out.trans HX2.out, by rw [rangeE_below HP1.out]; rfl, HX2.out.st _, fun b hb => .inl hb, HB2.out, HC.out.ext HW.out HX2.out⟩⟩
  case round =>
    obtain ⟨i, new, C', Wj, rfl, hpi, hil, hS⟩ := hrel
    have HS := Lib.hid hS
    have hsz := HC.out.size wr hS.at_
    have HSZ := Lib.hid hsz
    clear hS hsz
    gi_wp2_with fail
    refine ⟨trivial, ?_⟩
    refine (callsIn_wide.2 HSZ.out).mono ?_
    rintro e w2 ⟨rfl, q, rfl⟩
    have hxq : Ext wr (wr.drewN q) := (Ext.refl wr).drewN q
    by_cases hlt : i < es.length
    · have g1 : (i : Int) < (es.length : Int) := by omega
      have g1' : decide ((i : Int) < (es.length : Int)) = true := decide_eq_true g1
      obtain ⟨x, hxi⟩ : ∃ x, es[i]? = some x := ⟨_, List.getElem?_eq_getElem hlt⟩
      have hen := HC.out.entry (wr.drewN q) (HC.out.ext HS.out.at_ hxq) i x hxi
      have HEN := Lib.hid hen
      have HXI := Lib.hid hxi
      clear hen hxi
      gi_wp2_with fail
      refine ⟨trivial, ?_⟩
      refine (callsIn_wide.2 HEN.out).mono ?_
      rintro e w3 ⟨sl, so, rfl, hx3, hrv⟩
      have hx4 : Ext w3 (w3.alloc (.cells #[.string x.1, .int .i64 x.2.kind, .bool x.2.b, .int .i64 x.2.i, .string x.2.t, .slice sl.a x.2.l.length sl.c, .slice so.a x.2.ok.length so.c] 56)) := (Ext.refl w3).alloc _ _
      have hb4 := Blk.new w3 56 #[.string x.1, .int .i64 x.2.kind, .bool x.2.b, .int .i64 x.2.i, .string x.2.t, .slice sl.a x.2.l.length sl.c, .slice so.a x.2.ok.length so.c]
      have HX4 := Lib.hid ((hxq.trans hx3).trans hx4)
      have HX34 := Lib.hid hx4
      have HB4 := Lib.hid hb4
      have HRV := Lib.hid hrv
      have hbx := HS.out.box.ext (hxq.trans hx3)
      have qb0 : w3.cell? ⟨W.heap.size, 0, none⟩ = some (.string lo) := hbx.cell 0
      have qb1 : w3.cell? ⟨W.heap.size, 1, none⟩ = some (.string hi) := hbx.cell 1
      have qb2 : w3.cell? ⟨W.heap.size, 2, none⟩ = some (.bool op) := hbx.cell 2
      have lb := hbx.lt
      clear hx3 hx4 hb4 hrv hbx
      gi_wp2_with fail
      refine ⟨trivial, ?_⟩
      refine (callsIn_wide.2 (ends_any _ lo hi op x.1)).mono ?_
      rintro e w5 ⟨rfl, hx5⟩
      have hX5 := HX4.out.trans hx5
      have hb5 := HB4.out.ext hx5
      obtain ⟨c0, c1, c2, c3, c4, c5, c6⟩ := hb5.c7
      have hat5 := HC.out.ext HS.out.at_ hX5
      have hbx5 := HS.out.box.ext hX5
      have hs4 := HX34.out.size
      have hs5 := hx5.size
      have hsj := HS.out.ext.size
      have hrv5 : RV w5 (In wr.heap.size w5.heap.size) x.2 sl so := ((HRV.out.agree (HX34.out.agree fun b hb => hb.2)).agree (hx5.agree fun b hb => by have := hb.2; omega)).mono fun b hb => ⟨hb.1, by have := hb.2; omega⟩
      have HX5 := Lib.hid hX5
      have HAT := Lib.hid hat5
      have HBX := Lib.hid hbx5
      have HRV5 := Lib.hid hrv5
      clear hx5 hX5 hb5 hat5 hbx5 hrv5 HRV HX4 HX34 HB4 qb0 qb1 qb2
      cases hend : endI hi op x.1 with
      | true =>
        gi_wp2_with fail
        refine ⟨fun _ h => absurd h (by simp), ?_⟩
        gi_wp2_with fail
        go_ret
        refine .inl ⟨new, C', Wj, .inr ⟨rfl, x, List.mem_of_getElem? HXI.out, hend⟩, HS.out.j, HS.out.ext.trans HX5.out, ?_, HS.out.st.ext HX5.out, fun b hb => (HS.out.sub b hb).imp_right Nat.le_of_lt⟩
        rw [HS.out.new_, rangeE_rest HC.out.sorted HXI.out hend]
      | false =>
        have hge : klt x.1 lo = false := HP2.out x (by
          obtain ⟨h1, rfl⟩ := List.getElem?_eq_some_iff.1 HXI.out
          rw [List.mem_iff_getElem?]
          exact ⟨i - p, by rw [List.getElem?_drop, Nat.add_sub_cancel' hpi]; exact HXI.out⟩)
        have hes : es = es.take i ++ x :: es.drop (i + 1) := by
          obtain ⟨h1, h2⟩ := List.getElem?_eq_some_iff.1 HXI.out
          conv => lhs; rw [← List.take_append_drop i es, List.drop_eq_getElem_cons h1, h2]
        obtain ⟨n1, n2, n3⟩ := scanG_next (x := ⟨x.1, x.2, sl, so⟩) (A := es.take i) (B := es.drop (i + 1)) (all := all) (rest := rest) (pre := pre) (by show all = pre.map LE.ent ++ (rangeE lo hi op (es.take i ++ x :: es.drop (i + 1)) ++ rest); rw [← hes]; exact HALL.out) HS.out.new_ hge hend
        have hy := HT.out.take (pre ++ new) C' ⟨x.1, x.2, sl, so⟩ Wj w5 HS.out.j (HS.out.ext.trans HX5.out) ⟨n1, n2, HRV5.out.mono fun b hb => ⟨by have := hb.1; omega, hb.2⟩, HSM.out x (List.mem_of_getElem? HXI.out)⟩
        obtain ⟨fn, tmps, assign, body, hy, hR⟩ := hy
        have HR := Lib.hid hR
        have HN1 := Lib.hid n1
        have HN2 := Lib.hid n2
        have HN3 := Lib.hid n3
        have HES := Lib.hid hes
        clear hR n1 n2 n3 hes
        dsimp only [encE] at hy
        gi_wp2_with fail
        refine HR.out.mono ?_
        rintro e w6 (⟨rfl, C6, hj6, hst6, hsub6⟩ | ⟨rfl, hjx, hst6⟩)
        · have hj6' : J (pre ++ (new ++ [⟨x.1, x.2, sl, so⟩])) C6 w6 := by rw [← List.append_assoc]; exact hj6
          have hWC : ∀ b, b ≤ W.heap.size → C' b → C b := fun b hb h => by
            rcases HS.out.sub b h with h | h
            · exact h
            · omega
          have hWC0 : ¬ C' W.heap.size := fun h => by
            have h1 := HCL.out _ (hWC _ (Nat.le_refl _) h)
            have := HX.out.size; omega
          have HS6 := Lib.hid (show LeafS lo hi op es At pre J C W (i + 1) (new ++ [⟨x.1, x.2, sl, so⟩]) C6 w6 w6 from
            ⟨hj6', Ext.refl _, by rw [HN3.out, List.take_add_one, HXI.out]; rfl, (HS.out.st.ext HX5.out).then hst6 (fun b hb h => hWC b (Nat.le_of_lt hb) h), fun b hb => by
              rcases hsub6 b hb with h | h
              · exact HS.out.sub b h
              · exact .inr (by omega), hst6.blk HBX.out hWC0, HAG.out w5 w6 HAT.out (hst6.agree.mono fun b hb => ⟨by have := (HF.out b hb).1; omega, fun h => (HF.out b hb).2 (hWC b (Nat.le_of_lt (HF.out b hb).1) h)⟩) hst6.size⟩)
          clear hj6 hst6 hsub6 hj6' hWC hWC0 hy
          gi_wp2_with fail
          go_roundw
          case rel => exact ⟨i + 1, _, C6, w6, by go_num, by omega, hlt, HS6.out⟩
          case measure => simp [intOf]; omega
        · gi_wp2_with fail
          go_ret
          have hst : St C W w6 := (HS.out.st.ext HX5.out).then hst6 fun b hb h => by
            rcases HS.out.sub b h with h | h
            · exact h
            · omega
          exact .inr ⟨rfl, hst, _, w6, hjx, Ext.refl _, by
            rw [List.map_append, HN2.out]
            exact take_snoc_prefix HN1.out⟩
    · obtain rfl : i = es.length := by omega
      gi_wp2_with fail
      go_ret
      refine .inl ⟨new, C', Wj, .inl rfl, HS.out.j, HS.out.ext.trans hxq, ?_, HS.out.st.ext hxq, fun b hb => (HS.out.sub b hb).imp_right Nat.le_of_lt⟩
      rw [HS.out.new_, List.take_length]
theorem keys_small {w : World} {F : Nat → Prop} : ∀ {h : Nat} {t : PT h}, IsN w F h t → ∀ e ∈ ents h t, e.1.size ≤ maxLen
  | 0, t, ⟨_, s, xs, _, h3, h4⟩, e, he => by
    have he : e ∈ t.2 := he
    rw [← h4] at he
    obtain ⟨x, hx, rfl⟩ := List.mem_map.1 he
    exact (h3.vals x hx).2
  | h + 1, t, ⟨_, s, _, _, h4⟩, e, he => by
    have he : e ∈ t.2.flatMap (ents h) := he
    obtain ⟨k, hk, he⟩ := List.mem_flatMap.1 he
    exact keys_small (h4 k hk) e he
theorem WalkPost.from {lo hi : ByteArray} {op : Bool} {es all : List Ent} {pre : List LE} {J : List LE → (Nat → Prop) → World → Prop} {Jx : List LE → World → Prop} {C : Nat → Prop} {W W1 : World} {e : Ending} {W' : World} (h : WalkPost lo hi op es all pre J Jx C W1 e W') (hx : Ext W W1) : WalkPost lo hi op es all pre J Jx C W e W' := by
  rcases h with ⟨new, C', W0, h1, h2, h3, h4, h5, h6⟩ | h
  · exact .inl ⟨new, C', W0, h1, h2, h3, h4, (hx.st C).trans h5, fun b hb => (h6 b hb).imp_right fun h => Nat.le_trans hx.size h⟩
  · exact .inr ⟨h.1, (hx.st C).trans h.2.1, h.2.2⟩
theorem WalkPost.bool {lo hi : ByteArray} {op : Bool} {es all : List Ent} {pre : List LE} {J : List LE → (Nat → Prop) → World → Prop} {Jx : List LE → World → Prop} {C : Nat → Prop} {W : World} {e : Ending} {W' : World} (h : WalkPost lo hi op es all pre J Jx C W e W') : ∃ b, e = .returned (.bool b) := by
  rcases h with ⟨new, C', W0, h1 | h1, _⟩ | h
  · exact ⟨_, h1⟩
  · exact ⟨_, h1.1⟩
  · exact ⟨_, h.1⟩
set_option maxRecDepth 100000 in
set_option maxHeartbeats 2000000 in
theorem walk_leaf {At : World → Prop} {F : Nat → Prop} {nv : Value} {es : List Ent} (hc : LeafC At nv es) (hagr : ∀ W W', At W → Agree F W W' → W.heap.size ≤ W'.heap.size → At W') (hsm : ∀ e ∈ es, e.1.size ≤ maxLen) {lo hi : ByteArray} {op : Bool} {all rest : List Ent} {pre : List LE}
    {l : Nat} {J : List LE → (Nat → Prop) → World → Prop} {Jx : List LE → World → Prop} (hT : Takes Try.prog l encE (ScanG all) J Jx) {C : Nat → Prop} {W0 W : World} (hJ : J pre C W0) (hx : Ext W0 W) (hw : At W) (hF : ∀ b, F b → b < W.heap.size ∧ ¬ C b) (hall : all = pre.map LE.ent ++ (rangeE lo hi op es ++ rest)) :
    Calls Try.prog 106 #[nv, inV lo hi op, .func (.yield l) #[] #[]] W (WalkPost lo hi op es all pre J Jx C W) := by
  have hx1 : Ext W (W.alloc (.cells #[.string lo, .string hi, .bool op] 166)) := (Ext.refl W).alloc _ _
  have hh := hc.height _ (hc.ext hw hx1)
  have hwl := walkLeaf_any hc hagr hsm hT hJ (hx.trans hx1) (hc.ext hw hx1) (fun b hb => ⟨Nat.lt_of_lt_of_le (hF b hb).1 hx1.size, (hF b hb).2⟩) hall
  obtain ⟨pp, rfl⟩ := hc.ptr
  have HWL := Lib.hid hwl
  have HX1 := Lib.hid hx1
  clear hc hagr hsm hT hJ hx hw hF hall hwl hx1
  go_enter Try.func106, Try.ntmps106
  go_wp2_with fail
  refine hh.mono ?_
  rintro e w1 ⟨rfl, rfl⟩
  go_wp2_with fail
  refine HWL.out.mono ?_
  rintro e w2 hp
  obtain ⟨b, rfl⟩ := hp.bool
  have HP := Lib.hid (hp.from HX1.out)
  clear hp
  go_wp2_with fail
  go_ret
  exact HP.out
/-- Where a walk over an inner node's kids stands. -/
structure NodeS (lo hi : ByteArray) (op : Bool) (F : Nat → Prop) (h : Nat) (t : PT (h + 1)) (pre : List LE) (J : List LE → (Nat → Prop) → World → Prop) (C : Nat → Prop) (W w3 : World) (g : Nat) (j : Nat) (new : List LE) (C' : Nat → Prop) (Wj wr : World) : Prop where
  j_ : J (pre ++ new) C' Wj
  ext : Ext Wj wr
  new_ : new.map LE.ent = rangeE lo hi op ((t.2.take j).flatMap (ents h))
  st : St C W wr
  sub : ∀ b, C' b → C b ∨ w3.heap.size ≤ b
  big : w3.heap.size ≤ wr.heap.size
  box : Blk wr W.heap.size 166 #[.string lo, .string hi, .bool op]
  rows : ∀ o, wr.cell? ⟨g, o, none⟩ = w3.cell? ⟨g, o, none⟩
  at_ : NodeAt F (h + 1) t wr
set_option maxRecDepth 100000 in
set_option maxHeartbeats 4000000 in
theorem walk_succ {F : Nat → Prop} {lo hi : ByteArray} {op : Bool} {all : List Ent} {l : Nat} {J : List LE → (Nat → Prop) → World → Prop} {Jx : List LE → World → Prop} (hT : Takes Try.prog l encE (ScanG all) J Jx) {h : Nat}
    (ih : ∀ (t : PT h) (pre : List LE) (rest : List Ent) (C : Nat → Prop) (W0 W : World), J pre C W0 → Ext W0 W → NodeAt F h t W → (∀ b, F b → ¬ C b) → OkT h t → Sorted (ents h t) → (ents h t).length ≤ 1000000 → all = pre.map LE.ent ++ (rangeE lo hi op (ents h t) ++ rest) →
      Calls Try.prog 106 #[ptr h t, inV lo hi op, .func (.yield l) #[] #[]] W (WalkPost lo hi op (ents h t) all pre J Jx C W))
    {t : PT (h + 1)} {pre : List LE} {rest : List Ent} {C : Nat → Prop} {W0 W : World} (hJ : J pre C W0) (hx : Ext W0 W) (hn : NodeAt F (h + 1) t W) (hF : ∀ b, F b → ¬ C b) (ok : OkT (h + 1) t) (hs : Sorted (ents (h + 1) t)) (hl : (ents (h + 1) t).length ≤ 1000000) (hall : all = pre.map LE.ent ++ (rangeE lo hi op (ents (h + 1) t) ++ rest)) :
    Calls Try.prog 106 #[ptr (h + 1) t, inV lo hi op, .func (.yield l) #[] #[]] W (WalkPost lo hi op (ents (h + 1) t) all pre J Jx C W) := by
  have hlen8 := ok.2.1
  have hlen2 := ok.1
  have hCl := hT.lt pre C W0 hJ
  have hx1 : Ext W (W.alloc (.cells #[.string lo, .string hi, .bool op] 166)) := (Ext.refl W).alloc _ _
  have hb1 := Blk.new W 166 #[.string lo, .string hi, .bool op]
  have hh := height_any (hn.ext hx1).1
  have hkc := kids_any (hn.ext hx1).1 (by omega)
  have hhm : h + 1 < 1000000 := Nat.lt_of_lt_of_le (height_lt (h + 1) t ok (by show 1 ≤ t.2.length; omega)) hl
  have hne : (((h + 1 : Nat) : Int) == 0) = false := beq_eq_false_iff_ne.2 (by omega)
  have hne' : ((h : Int) + 1 == 0) = false := beq_eq_false_iff_ne.2 (by omega)
  have HT := Lib.hid hT
  have HIH := Lib.hid ih
  have HJ := Lib.hid hJ
  have HX := Lib.hid hx
  have HN := Lib.hid hn
  have HF := Lib.hid hF
  have HOK := Lib.hid ok
  have HS := Lib.hid hs
  have HL := Lib.hid hl
  have HALL := Lib.hid hall
  have HX1 := Lib.hid hx1
  have HB1 := Lib.hid hb1
  have HCL := Lib.hid hCl
  clear hT ih hJ hx hn hF ok hs hl hall hx1 hb1 hCl
  refine (callsIn_wide (n := 5)).1 ?_
  refine callsIn_of_wp Try.func106 rfl trivial ?_ rfl
  simp only [Try.ntmps106, List.size_toArray, List.length_cons, List.length_nil, Nat.reduceAdd, Nat.reduceSub, Array.replicate_succ, Array.replicate_zero, List.push_toArray, List.append_toArray, List.nil_append, List.cons_append]
  gi_wp2_with fail
  refine ⟨trivial, ?_⟩
  refine (callsIn_wide.2 hh).mono ?_
  rintro e w1 ⟨rfl, rfl⟩
  gi_wp2_with fail
  refine ⟨trivial, ?_⟩
  refine (callsIn_wide.2 hkc).mono ?_
  rintro e w3 ⟨sk, rfl, hown, hx3⟩
  have hrd : Rd w3 (Lt w3.heap.size) 1 sk t.2.length (ptrs h t.2) := (Rd.of_own hown).mono fun i hi => hi.2
  obtain ⟨g, cap, rfl, hbg, hnc, hcm, hfil⟩ := own_block hown (by omega)
  have hgl := hfil.lt
  have hWg : W.heap.size < g := by simp at hbg; omega
  have HRD := Lib.hid hrd
  have HX3 := Lib.hid (HX1.out.trans hx3)
  have HB3 := Lib.hid (HB1.out.ext hx3)
  have hs3 := HX3.out.size
  have hs0 := HX.out.size
  clear hown hrd hx3 hfil hkc hh HB1 HX1
  gi_wp2_with fail
  gi_loopw [19] (fun v wr => ∃ (j : Nat) (new : List LE) (C' : Nat → Prop) (Wj : World), v = .int .i64 j ∧ j ≤ t.2.length ∧ NodeS lo hi op F h t pre J C W w3 g j new C' Wj wr) (fun v _ => t.2.length - (intOf v).toNat)
  case atStart => exact ⟨0, [], C, W0, rfl, Nat.zero_le _, ⟨by rw [List.append_nil]; exact HJ.out, HX.out.trans HX3.out, rfl, HX3.out.st _, fun b hb => .inl hb, Nat.le_refl _, HB3.out, fun _ => rfl, HN.out.ext HX3.out⟩⟩
  case round =>
    obtain ⟨j, new, C', Wj, rfl, hj, hS⟩ := hrel
    have HSN := Lib.hid hS
    clear hS
    by_cases hlt : j < t.2.length
    · obtain ⟨kid, hkid⟩ : ∃ kid, t.2[j]? = some kid := ⟨_, List.getElem?_eq_getElem hlt⟩
      obtain ⟨b, o', hba, -, -, -, hbc⟩ := HRD.out.ptr_at hkid
      obtain ⟨rfl, rfl⟩ : g = b ∧ 0 = o' := by simpa using hba
      have kc : wr.cell? ⟨g, j, none⟩ = some (ptr h kid) := by rw [HSN.out.rows]; simpa using hbc
      have hjl : (j : Int) < (t.2.length : Int) := by omega
      have hkm := List.mem_of_getElem? hkid
      have hkn : NodeAt F h kid wr := ⟨HSN.out.at_.1.2.choose_spec.2.2 kid hkm, HSN.out.at_.2⟩
      have hks : Sorted (ents h kid) := kid_sorted HS.out kid hkm
      have hmid := take_mid hkid
      have hent : ents (h + 1) t = (t.2.take j).flatMap (ents h) ++ (ents h kid ++ (t.2.drop (j + 1)).flatMap (ents h)) := by
        show t.2.flatMap (ents h) = _
        conv => lhs; rw [hmid]
        simp only [List.flatMap_append, List.flatMap_cons]
      have hlk : (ents h kid).length ≤ 1000000 := by have := HL.out; rw [hent] at this; simp only [List.length_append] at this; omega
      have hsnoc : (t.2.take (j + 1)).flatMap (ents h) = (t.2.take j).flatMap (ents h) ++ ents h kid := by rw [List.take_add_one, hkid]; simp
      have HLAST := Lib.hid (fun W1 (hW : Ext wr W1) => last_any (hkn.ext hW).1)
      have HFIRST := Lib.hid (fun W1 (hW : Ext wr W1) => first_any (hkn.ext hW).1)
      have hbox := HSN.out.box
      have HSS := Lib.hid (show ∀ W1, Ext wr W1 → W1.cell? ⟨W.heap.size, 0, none⟩ = some (.string lo) ∧ W1.cell? ⟨W.heap.size, 1, none⟩ = some (.string hi) ∧ W1.cell? ⟨W.heap.size, 2, none⟩ = some (.bool op) from fun W1 hW => ⟨(hbox.ext hW).cell 0, (hbox.ext hW).cell 1, (hbox.ext hW).cell 2⟩)
      have HKN := Lib.hid hkn
      have HKS := Lib.hid hks
      have HENT := Lib.hid hent
      have HSNOC := Lib.hid hsnoc
      clear hkid hba hbc hkn hks hmid hent hsnoc hbox
      cases hlb : klt (lastK (ents h kid)) lo with
      | true =>
        have hb1 : Op.bytesLess (lastK (ents h kid)).toList lo.toList = true := hlb
        gi_wp2_with fail
        refine wpIn_wide.2 ?_
        refine wp_region_held_drew (S := (fun w' => Ext wr w')) (by kernel_rfl) (((Ext.refl wr).drew)) (fun hHeld => ?_)
        refine held_on (i := 0) (d := (some 24)) (v := ?_) rfl rfl (by kernel_rfl) (by kernel_rfl) (by kernel_rfl) (fun _ _ _ h => h) (by rfl) hHeld ?_ ?_
        rotate_left
        focus (intro w hSw; have hSc := HSS.out w hSw; clear hSw; go_simp; first | done | with_reducible rfl)
        try simp only [Act.put, List.setIfInBounds_toArray, List.set_cons_zero, List.set_cons_succ]
        refine held_on (i := 2) (d := (some 26)) (v := ?_) rfl rfl (by kernel_rfl) (by kernel_rfl) (by kernel_rfl) (fun _ _ _ h => h) (by rfl) hHeld ?_ ?_
        rotate_left
        focus (intro w hSw; have hSc := HSS.out w hSw; clear hSw; go_simp; first | done | with_reducible rfl)
        try simp only [Act.put, List.setIfInBounds_toArray, List.set_cons_zero, List.set_cons_succ]
        refine held_on (i := 3) (d := (some 27)) (v := ?_) rfl rfl (by kernel_rfl) (by kernel_rfl) (by kernel_rfl) (fun _ _ _ h => h) (by rfl) hHeld ?_ ?_
        rotate_left
        focus (intro w hSw; have hSc := HSS.out w hSw; clear hSw; go_simp; first | done | with_reducible rfl)
        try simp only [Act.put, List.setIfInBounds_toArray, List.set_cons_zero, List.set_cons_succ]
        refine held_call (i := 1) (by kernel_rfl) rfl (by rfl) (fun K hK => ?_)
        go_simp
        (refine (HLAST.out _ hHeld).mono ?_; rintro e w5 ⟨rfl, rfl⟩)
        refine hK.out _ _ (hHeld) (fun hHeld => ?_)
        clear hK K
        try simp only [Act.put, List.setIfInBounds_toArray, List.set_cons_zero, List.set_cons_succ]
        refine held_on (i := 4) (d := (some 28)) (v := ?_) rfl rfl (by kernel_rfl) (by kernel_rfl) (by kernel_rfl) (fun _ _ _ h => h) (by rfl) hHeld ?_ ?_
        rotate_left
        focus (intro w hSw; have hSc := HSS.out w hSw; clear hSw; go_simp; first | done | with_reducible rfl)
        try simp only [Act.put, List.setIfInBounds_toArray, List.set_cons_zero, List.set_cons_succ]
        refine held_on (i := 5) (d := (some 23)) (v := ?_) rfl rfl (by kernel_rfl) (by kernel_rfl) (by kernel_rfl) (fun _ _ _ h => h) (by rfl) hHeld ?_ ?_
        rotate_left
        focus (intro w hSw; have hSc := HSS.out w hSw; clear hSw; go_simp; first | done | with_reducible rfl)
        try simp only [Act.put, List.setIfInBounds_toArray, List.set_cons_zero, List.set_cons_succ]
        refine wpAnyH_done (by kernel_rfl) ?_ _
        have HX5 := Lib.hid hHeld
        clear hHeld
        have HS6 := Lib.hid (show NodeS lo hi op F h t pre J C W w3 g (j + 1) new C' Wj wr.drew from
          ⟨HSN.out.j_, HSN.out.ext.trans HX5.out, by rw [HSN.out.new_, HSNOC.out, rangeE_app, rangeE_below (lt_of_last HKS.out hlb), List.append_nil], HSN.out.st.ext HX5.out, HSN.out.sub, by have := HX5.out.size; have := HSN.out.big; omega, HSN.out.box.ext HX5.out, fun o => (HX5.out.cell (by have := HSN.out.big; omega)).trans (HSN.out.rows o), HSN.out.at_.ext HX5.out⟩)
        generalize wr.drew = w6 at *
        gi_wp2_with fail
        go_roundw
        case rel => exact ⟨j + 1, new, C', Wj, by go_num, hlt, HS6.out⟩
        case measure => simp [intOf]; omega
      | false => 
        have hb1 : Op.bytesLess (lastK (ents h kid)).toList lo.toList = false := hlb
        gi_wp2_with fail
        refine wpIn_wide.2 ?_
        refine wp_region_held_drew (S := (fun w' => Ext wr w')) (by kernel_rfl) (((Ext.refl wr).drew)) (fun hHeld => ?_)
        refine held_on (i := 0) (d := (some 24)) (v := ?_) rfl rfl (by kernel_rfl) (by kernel_rfl) (by kernel_rfl) (fun _ _ _ h => h) (by rfl) hHeld ?_ ?_
        rotate_left
        focus (intro w hSw; have hSc := HSS.out w hSw; clear hSw; go_simp; first | done | with_reducible rfl)
        try simp only [Act.put, List.setIfInBounds_toArray, List.set_cons_zero, List.set_cons_succ]
        refine held_on (i := 2) (d := (some 26)) (v := ?_) rfl rfl (by kernel_rfl) (by kernel_rfl) (by kernel_rfl) (fun _ _ _ h => h) (by rfl) hHeld ?_ ?_
        rotate_left
        focus (intro w hSw; have hSc := HSS.out w hSw; clear hSw; go_simp; first | done | with_reducible rfl)
        try simp only [Act.put, List.setIfInBounds_toArray, List.set_cons_zero, List.set_cons_succ]
        refine held_on (i := 3) (d := (some 27)) (v := ?_) rfl rfl (by kernel_rfl) (by kernel_rfl) (by kernel_rfl) (fun _ _ _ h => h) (by rfl) hHeld ?_ ?_
        rotate_left
        focus (intro w hSw; have hSc := HSS.out w hSw; clear hSw; go_simp; first | done | with_reducible rfl)
        try simp only [Act.put, List.setIfInBounds_toArray, List.set_cons_zero, List.set_cons_succ]
        refine held_call (i := 1) (by kernel_rfl) rfl (by rfl) (fun K hK => ?_)
        go_simp
        (refine (HLAST.out _ hHeld).mono ?_; rintro e w5 ⟨rfl, rfl⟩)
        refine hK.out _ _ (hHeld) (fun hHeld => ?_)
        clear hK K
        try simp only [Act.put, List.setIfInBounds_toArray, List.set_cons_zero, List.set_cons_succ]
        refine held_on (i := 4) (d := (some 28)) (v := ?_) rfl rfl (by kernel_rfl) (by kernel_rfl) (by kernel_rfl) (fun _ _ _ h => h) (by rfl) hHeld ?_ ?_
        rotate_left
        focus (intro w hSw; have hSc := HSS.out w hSw; clear hSw; go_simp; first | done | with_reducible rfl)
        try simp only [Act.put, List.setIfInBounds_toArray, List.set_cons_zero, List.set_cons_succ]
        refine held_on (i := 5) (d := (some 23)) (v := ?_) rfl rfl (by kernel_rfl) (by kernel_rfl) (by kernel_rfl) (fun _ _ _ h => h) (by rfl) hHeld ?_ ?_
        rotate_left
        focus (intro w hSw; have hSc := HSS.out w hSw; clear hSw; go_simp; first | done | with_reducible rfl)
        try simp only [Act.put, List.setIfInBounds_toArray, List.set_cons_zero, List.set_cons_succ]
        refine wpAnyH_done (by kernel_rfl) ?_ _
        cases hend : endI hi op (firstK (ents h kid)) with
        | true =>
          have HEND := Lib.hid (show ∀ W1, Calls Try.prog 148 #[inV lo hi op, .string (firstK (ents h kid))] W1 fun e w' => e = .returned (.bool true) ∧ Ext W1 w' from fun W1 => by have := ends_any W1 lo hi op (firstK (ents h kid)); rwa [hend] at this)
          gi_wp2_with fail
          refine wpIn_wide.2 ?_
          refine wp_region_held_drew (S := (fun w' => Ext wr w')) (by kernel_rfl) ((hHeld.drew)) (fun hHeld => ?_)
          refine held_on (i := 0) (d := (some 30)) (v := ?_) rfl rfl (by kernel_rfl) (by kernel_rfl) (by kernel_rfl) (fun _ _ _ h => h) (by rfl) hHeld ?_ ?_
          rotate_left
          focus (intro w hSw; have hSc := HSS.out w hSw; clear hSw; go_simp; first | done | with_reducible rfl)
          try simp only [Act.put, List.setIfInBounds_toArray, List.set_cons_zero, List.set_cons_succ]
          refine held_on (i := 1) (d := (some 31)) (v := ?_) rfl rfl (by kernel_rfl) (by kernel_rfl) (by kernel_rfl) (fun _ _ _ h => h) (by rfl) hHeld ?_ ?_
          rotate_left
          focus (intro w hSw; have hSc := HSS.out w hSw; clear hSw; go_simp; first | done | with_reducible rfl)
          try simp only [Act.put, List.setIfInBounds_toArray, List.set_cons_zero, List.set_cons_succ]
          refine held_call (i := 2) (by kernel_rfl) rfl (by rfl) (fun K hK => ?_)
          go_simp
          (refine (HFIRST.out _ hHeld).mono ?_; rintro e w6 ⟨rfl, rfl⟩)
          refine hK.out _ _ (hHeld) (fun hHeld => ?_)
          clear hK K
          try simp only [Act.put, List.setIfInBounds_toArray, List.set_cons_zero, List.set_cons_succ]
          refine held_call (i := 3) (by kernel_rfl) rfl (by rfl) (fun K hK => ?_)
          go_simp
          (refine (HEND.out _).mono ?_; rintro e w7 ⟨rfl, hx7⟩)
          refine hK.out _ _ (hHeld.trans hx7) (fun hHeld => ?_)
          clear hK K
          try simp only [Act.put, List.setIfInBounds_toArray, List.set_cons_zero, List.set_cons_succ]
          refine held_on (i := 4) (d := (some 29)) (v := ?_) rfl rfl (by kernel_rfl) (by kernel_rfl) (by kernel_rfl) (fun _ _ _ h => h) (by rfl) hHeld ?_ ?_
          rotate_left
          focus (intro w hSw; have hSc := HSS.out w hSw; clear hSw; go_simp; first | done | with_reducible rfl)
          try simp only [Act.put, List.setIfInBounds_toArray, List.set_cons_zero, List.set_cons_succ]
          refine wpAnyH_done (by kernel_rfl) ?_ _
          have HX7 := Lib.hid hHeld
          clear hHeld hx7
          gi_wp2_with fail
          go_ret
          have hne0 := kid_ne HOK.out hkm
          obtain ⟨x, hxm⟩ := List.exists_mem_of_ne_nil _ hne0
          have hxe := end_of_first HKS.out hend x hxm
          refine .inl ⟨new, C', Wj, .inr ⟨rfl, x, by rw [HENT.out]; simp [hxm], hxe⟩, HSN.out.j_, HSN.out.ext.trans HX7.out, ?_, HSN.out.st.ext HX7.out, fun b hb => (HSN.out.sub b hb).imp_right fun h => by omega⟩
          have hsd := HS.out
          rw [HENT.out] at hsd
          rw [HSN.out.new_, HENT.out, rangeE_app, rangeE_app, rangeE_above (end_of_first HKS.out hend), rangeE_behind (A := ents h kid) (sorted_app hsd).2.1 ⟨x, hxm, hxe⟩, List.append_nil, List.append_nil]
        | false =>
          have HEND := Lib.hid (show ∀ W1, Calls Try.prog 148 #[inV lo hi op, .string (firstK (ents h kid))] W1 fun e w' => e = .returned (.bool false) ∧ Ext W1 w' from fun W1 => by have := ends_any W1 lo hi op (firstK (ents h kid)); rwa [hend] at this)
          gi_wp2_with fail
          refine wpIn_wide.2 ?_
          refine wp_region_held_drew (S := (fun w' => Ext wr w')) (by kernel_rfl) ((hHeld.drew)) (fun hHeld => ?_)
          refine held_on (i := 0) (d := (some 30)) (v := ?_) rfl rfl (by kernel_rfl) (by kernel_rfl) (by kernel_rfl) (fun _ _ _ h => h) (by rfl) hHeld ?_ ?_
          rotate_left
          focus (intro w hSw; have hSc := HSS.out w hSw; clear hSw; go_simp; first | done | with_reducible rfl)
          try simp only [Act.put, List.setIfInBounds_toArray, List.set_cons_zero, List.set_cons_succ]
          refine held_on (i := 1) (d := (some 31)) (v := ?_) rfl rfl (by kernel_rfl) (by kernel_rfl) (by kernel_rfl) (fun _ _ _ h => h) (by rfl) hHeld ?_ ?_
          rotate_left
          focus (intro w hSw; have hSc := HSS.out w hSw; clear hSw; go_simp; first | done | with_reducible rfl)
          try simp only [Act.put, List.setIfInBounds_toArray, List.set_cons_zero, List.set_cons_succ]
          refine held_call (i := 2) (by kernel_rfl) rfl (by rfl) (fun K hK => ?_)
          go_simp
          (refine (HFIRST.out _ hHeld).mono ?_; rintro e w6 ⟨rfl, rfl⟩)
          refine hK.out _ _ (hHeld) (fun hHeld => ?_)
          clear hK K
          try simp only [Act.put, List.setIfInBounds_toArray, List.set_cons_zero, List.set_cons_succ]
          refine held_call (i := 3) (by kernel_rfl) rfl (by rfl) (fun K hK => ?_)
          go_simp
          (refine (HEND.out _).mono ?_; rintro e w7 ⟨rfl, hx7⟩)
          refine hK.out _ _ (hHeld.trans hx7) (fun hHeld => ?_)
          clear hK K
          try simp only [Act.put, List.setIfInBounds_toArray, List.set_cons_zero, List.set_cons_succ]
          refine held_on (i := 4) (d := (some 29)) (v := ?_) rfl rfl (by kernel_rfl) (by kernel_rfl) (by kernel_rfl) (fun _ _ _ h => h) (by rfl) hHeld ?_ ?_
          rotate_left
          focus (intro w hSw; have hSc := HSS.out w hSw; clear hSw; go_simp; first | done | with_reducible rfl)
          try simp only [Act.put, List.setIfInBounds_toArray, List.set_cons_zero, List.set_cons_succ]
          refine wpAnyH_done (by kernel_rfl) ?_ _
          have HX7 := Lib.hid hHeld
          obtain ⟨q0, q1, q2⟩ := HSS.out w7 hHeld
          have hFC : ∀ b, F b → ¬ C' b := fun b hb h => by
            rcases HSN.out.sub b h with h | h
            · exact HF.out b hb h
            · have := (HN.out.2 b hb); omega
          have hic := HIH.out kid (pre ++ new) (rangeE lo hi op ((t.2.drop (j + 1)).flatMap (ents h)) ++ rest) C' Wj w7 HSN.out.j_ (HSN.out.ext.trans HX7.out) (HKN.out.ext HX7.out) hFC (HOK.out.2.2 kid hkm).1 HKS.out hlk (by
            rw [HALL.out, HENT.out, List.map_append, HSN.out.new_, rangeE_app, rangeE_app]
            simp only [List.append_assoc])
          have HIC := Lib.hid hic
          have hs7 := HX7.out.size
          clear hHeld hx7 hFC hic
          gi_wp2_with fail
          refine ⟨trivial, ?_⟩
          refine (callsIn_wide.2 HIC.out).mono ?_
          rintro e w8 (⟨new', C8, W8, hb8, hj8, hx8, hn8, hst8, hsub8⟩ | ⟨rfl, hst8, pre', W8, hj8, hx8, hp8⟩)
          · have hst : St C W w8 := (HSN.out.st.ext HX7.out).then hst8 fun b hb h => by
              rcases HSN.out.sub b h with h | h
              · exact h
              · omega
            have hsub : ∀ b, C8 b → C b ∨ w3.heap.size ≤ b := fun b hb => by
              rcases hsub8 b hb with h | h
              · exact HSN.out.sub b h
              · exact .inr (by have := HSN.out.big; omega)
            have hj8' : J (pre ++ (new ++ new')) C8 W8 := by rw [← List.append_assoc]; exact hj8
            have hn8' : (new ++ new').map LE.ent = rangeE lo hi op ((t.2.take (j + 1)).flatMap (ents h)) := by rw [List.map_append, HSN.out.new_, hn8, HSNOC.out, rangeE_app]
            rcases hb8 with rfl | ⟨rfl, x, hxm, hxe⟩
            · have hnC : ∀ b, b < w3.heap.size → W.heap.size ≤ b → ¬ C' b := fun b h1 h2 h => by
                rcases HSN.out.sub b h with h | h
                · have := HCL.out b h; omega
                · omega
              have HS8 := Lib.hid (show NodeS lo hi op F h t pre J C W w3 g (j + 1) (new ++ new') C8 W8 w8 from
                ⟨hj8', hx8, hn8', hst, hsub, by have := hst8.size; have := HSN.out.big; omega, hst8.blk (HSN.out.box.ext HX7.out) (hnC _ (by omega) (Nat.le_refl _)),
                  fun o => (hst8.cell (by have := HSN.out.big; omega) (hnC _ hgl (by omega))).trans ((HX7.out.cell (by have := HSN.out.big; omega)).trans (HSN.out.rows o)),
                  ⟨(HSN.out.at_.ext HX7.out).1.agree (hst8.agree.mono fun b hb => ⟨by have := (HSN.out.at_.ext HX7.out).2 b hb; omega, fun h => by
                    rcases HSN.out.sub b h with h | h
                    · exact HF.out b hb h
                    · have := (HN.out.2 b hb); omega⟩), fun b hb => by have := hst8.size; have := HN.out.2 b hb; have := HSN.out.big; omega⟩⟩)
              clear hst hsub hj8' hn8' hj8 hx8 hn8 hst8 hsub8 hnC
              gi_wp2_with fail
              go_roundw
              case rel => exact ⟨j + 1, _, C8, W8, by go_num, hlt, HS8.out⟩
              case measure => simp [intOf]; omega
            · clear hst8 hsub8 hn8 hj8
              gi_wp2_with fail
              go_ret
              refine .inl ⟨new ++ new', C8, W8, .inr ⟨rfl, x, by rw [HENT.out]; simp [hxm], hxe⟩, hj8', hx8, ?_, hst, fun b hb => (hsub b hb).imp_right fun h => by omega⟩
              have hsd := HS.out
              rw [HENT.out] at hsd
              rw [hn8', HSNOC.out, HENT.out, rangeE_app, rangeE_app, rangeE_app, rangeE_behind (A := ents h kid) (sorted_app hsd).2.1 ⟨x, hxm, hxe⟩, List.append_nil]
          · gi_wp2_with fail
            go_ret
            exact .inr ⟨rfl, (HSN.out.st.ext HX7.out).then hst8 (fun b hb h => by
              rcases HSN.out.sub b h with h | h
              · exact h
              · omega), pre', W8, hj8, hx8, hp8⟩
    · obtain rfl : j = t.2.length := by omega
      gi_wp2_with fail
      go_ret
      refine .inl ⟨new, C', Wj, .inl rfl, HSN.out.j_, HSN.out.ext, ?_, HSN.out.st, fun b hb => (HSN.out.sub b hb).imp_right fun h => by omega⟩
      rw [HSN.out.new_, List.take_length]; rfl
theorem walk_any {F : Nat → Prop} {lo hi : ByteArray} {op : Bool} {all : List Ent} {l : Nat} {J : List LE → (Nat → Prop) → World → Prop} {Jx : List LE → World → Prop} (hT : Takes Try.prog l encE (ScanG all) J Jx) :
    ∀ (h : Nat) (t : PT h) (pre : List LE) (rest : List Ent) (C : Nat → Prop) (W0 W : World), J pre C W0 → Ext W0 W → NodeAt F h t W → (∀ b, F b → ¬ C b) → OkT h t → Sorted (ents h t) → (ents h t).length ≤ 1000000 → all = pre.map LE.ent ++ (rangeE lo hi op (ents h t) ++ rest) →
      Calls Try.prog 106 #[ptr h t, inV lo hi op, .func (.yield l) #[] #[]] W (WalkPost lo hi op (ents h t) all pre J Jx C W)
  | 0, t, pre, rest, C, W0, W, hJ, hx, hn, hF, ok, hs, _, hall =>
    walk_leaf (F := F) (leafC_node ok hs) (fun W W' a ha hz => ⟨a.1.agree ha, fun b hb => Nat.lt_of_lt_of_le (a.2 b hb) hz⟩) (keys_small hn.1) hT hJ hx hn (fun b hb => ⟨hn.2 b hb, hF b hb⟩) hall
  | h + 1, t, pre, rest, C, W0, W, hJ, hx, hn, hF, ok, hs, hl, hall =>
    walk_succ hT (fun t pre rest C W0 W a b c d e f g i => walk_any hT h t pre rest C W0 W a b c d e f g i) hJ hx hn hF ok hs hl hall
theorem walkR_any {F : Nat → Prop} {lo hi : ByteArray} {op : Bool} {l : Nat} {J : List LE → (Nat → Prop) → World → Prop} {Jx : List LE → World → Prop} {T : RT} (hT : Takes Try.prog l encE (ScanG (rangeE lo hi op (entsT T))) J Jx)
    {C : Nat → Prop} {W0 W : World} (hJ : J [] C W0) (hx : Ext W0 W) (hn : TreeAt F T W) (hF : ∀ b, F b → ¬ C b) (ok : OkR T) (hl : (entsT T).length ≤ 1000000) :
    Calls Try.prog 106 #[rootV T, inV lo hi op, .func (.yield l) #[] #[]] W (WalkPost lo hi op (entsT T) (rangeE lo hi op (entsT T)) [] J Jx C W) := by
  match T, hn, ok, hl with
  | none, _, _, _ => exact walk_leaf (F := fun _ => False) (rest := []) leafC_nil (fun _ _ _ _ _ => trivial) (fun e he => by cases he) hT hJ hx trivial (fun b hb => hb.elim) (by simp [entsT])
  | some ⟨h, t⟩, hn, ok, hl => exact walk_any hT h t [] [] C W0 W hJ hx hn hF ok.1 ok.2.2 hl (by simp [entsT])
end Go.Proofs.Ytpapoalgocmlaaa
namespace Go.Proofs.Ytpapoalgocmlaaa
open Go.RowKit Go.Shelf
set_option linter.unusedVariables false
set_option linter.unusedSimpArgs false

/-- The four boxes of an iterator over an interval. -/
structure RangeB (w : World) (B : Nat) (T : RT) (lo hi : ByteArray) (op : Bool) : Prop where
  bt : Blk w B 30 #[rootV T]
  bl : Blk w (B + 1) 9 #[.string lo]
  bh : Blk w (B + 2) 9 #[.string hi]
  bo : Blk w (B + 3) 4 #[.bool op]
/-- What an iterator over an interval reads. -/
def RangeK (F : Nat → Prop) (B : Nat) (b : Nat) : Prop := F b ∨ (B ≤ b ∧ b < B + 4)
abbrev rangeL (B : Nat) : Array Value := #[.pointer (some ⟨B, 0, none⟩), .pointer (some ⟨B + 1, 0, none⟩), .pointer (some ⟨B + 2, 0, none⟩), .pointer (some ⟨B + 3, 0, none⟩)]
theorem RangeB.agree {w w' : World} {B : Nat} {T : RT} {lo hi : ByteArray} {op : Bool} (h : RangeB w B T lo hi op) {F : Nat → Prop} (ha : Agree F w w') (hF : ∀ b, B ≤ b → b < B + 4 → F b) : RangeB w' B T lo hi op :=
  ⟨h.bt.agree ha (hF _ (by omega) (by omega)), h.bl.agree ha (hF _ (by omega) (by omega)), h.bh.agree ha (hF _ (by omega) (by omega)), h.bo.agree ha (hF _ (by omega) (by omega))⟩
theorem RangeB.lt {w : World} {B : Nat} {T : RT} {lo hi : ByteArray} {op : Bool} (h : RangeB w B T lo hi op) : B + 3 < w.heap.size := h.bo.lt
theorem WalkPost.st {lo hi : ByteArray} {op : Bool} {es all : List Ent} {pre : List LE} {J : List LE → (Nat → Prop) → World → Prop} {Jx : List LE → World → Prop} {C : Nat → Prop} {W : World} {e : Ending} {W' : World} (h : WalkPost lo hi op es all pre J Jx C W e W') : St C W W' := by
  rcases h with ⟨_, _, _, _, _, _, _, h5, _⟩ | ⟨_, h5, _⟩ <;> exact h5
set_option maxRecDepth 100000 in
set_option maxHeartbeats 2000000 in
theorem range_seq {w0 : World} {F : Nat → Prop} {T : RT} {B : Nat} {lo hi : ByteArray} {op : Bool} (hT : TreeAt F T w0) (ok : OkR T) (hl : (entsT T).length ≤ 1000000) (hB : RangeB w0 B T lo hi op) :
    SeqC Try.prog 105 (rangeL B) encE (RangeK F B) (ScanG (rangeE lo hi op (entsT T))) (fun xs => xs.map LE.ent = rangeE lo hi op (entsT T)) (fun pre => pre.map LE.ent <+: rangeE lo hi op (entsT T)) w0 := by
  intro l J Jx C W hTk hA hsz hCK hJ
  have hBW : RangeB W B T lo hi op := hB.agree hA fun b h1 h2 => .inr ⟨h1, h2⟩
  have hTW : TreeAt F T W := ⟨hT.1.agree (hA.mono fun b hb => .inl hb), fun b hb => Nat.lt_of_lt_of_le (hT.2 b hb) hsz⟩
  have hwk := fun W1 (hW : Ext W W1) => walkR_any hTk hJ hW (hTW.ext hW) (fun b hb h => hCK b h (.inl hb)) ok hl
  have hCl := hTk.lt [] C W hJ
  obtain ⟨p, hp⟩ := rootV_ptr T
  rw [hp] at hwk
  have hbt := hBW.bt
  rw [hp] at hbt
  have HSS := Lib.hid (show ∀ W1, St C W W1 → W1.cell? ⟨B, 0, none⟩ = some (.pointer p) ∧ W1.cell? ⟨B + 1, 0, none⟩ = some (.string lo) ∧ W1.cell? ⟨B + 2, 0, none⟩ = some (.string hi) ∧ W1.cell? ⟨B + 3, 0, none⟩ = some (.bool op) from fun W1 hW =>
    ⟨(hW.blk hbt fun h => hCK _ h (.inr ⟨by omega, by omega⟩)).cell 0, (hW.blk hBW.bl fun h => hCK _ h (.inr ⟨by omega, by omega⟩)).cell 0, (hW.blk hBW.bh fun h => hCK _ h (.inr ⟨by omega, by omega⟩)).cell 0, (hW.blk hBW.bo fun h => hCK _ h (.inr ⟨by omega, by omega⟩)).cell 0⟩)
  have HWK := Lib.hid hwk
  clear hTk hA hsz hCK hJ hBW hTW hwk hp hT ok hl hB hbt hCl
  show Calls _ _ #[.func (.yield l) #[] #[], .pointer (some ⟨B, 0, none⟩), .pointer (some ⟨B + 1, 0, none⟩), .pointer (some ⟨B + 2, 0, none⟩), .pointer (some ⟨B + 3, 0, none⟩)] W _
  go_enter Try.func105, Try.ntmps105
  go_wp2_with fail
  refine wp_region_held_drew (S := (fun w' => St C W w')) (by kernel_rfl) (((St.refl C W).drew)) (fun hHeld => ?_)
  refine held_on (i := 0) (d := (some 6)) (v := ?_) rfl rfl (by kernel_rfl) (by kernel_rfl) (by kernel_rfl) (fun _ _ _ h => h) (by rfl) hHeld ?_ ?_
  rotate_left
  focus (intro w hSw; have hSc := HSS.out w hSw; clear hSw; go_simp; first | done | with_reducible rfl)
  try simp only [Act.put, List.setIfInBounds_toArray, List.set_cons_zero, List.set_cons_succ]
  refine held_on (i := 2) (d := (some 8)) (v := ?_) rfl rfl (by kernel_rfl) (by kernel_rfl) (by kernel_rfl) (fun _ _ _ h => h) (by rfl) hHeld ?_ ?_
  rotate_left
  focus (intro w hSw; have hSc := HSS.out w hSw; clear hSw; go_simp; first | done | with_reducible rfl)
  try simp only [Act.put, List.setIfInBounds_toArray, List.set_cons_zero, List.set_cons_succ]
  refine held_on (i := 3) (d := (some 9)) (v := ?_) rfl rfl (by kernel_rfl) (by kernel_rfl) (by kernel_rfl) (fun _ _ _ h => h) (by rfl) hHeld ?_ ?_
  rotate_left
  focus (intro w hSw; have hSc := HSS.out w hSw; clear hSw; go_simp; first | done | with_reducible rfl)
  try simp only [Act.put, List.setIfInBounds_toArray, List.set_cons_zero, List.set_cons_succ]
  refine held_on (i := 4) (d := (some 10)) (v := ?_) rfl rfl (by kernel_rfl) (by kernel_rfl) (by kernel_rfl) (fun _ _ _ h => h) (by rfl) hHeld ?_ ?_
  rotate_left
  focus (intro w hSw; have hSc := HSS.out w hSw; clear hSw; go_simp; first | done | with_reducible rfl)
  try simp only [Act.put, List.setIfInBounds_toArray, List.set_cons_zero, List.set_cons_succ]
  refine held_on (i := 5) (d := (some 11)) (v := ?_) rfl rfl (by kernel_rfl) (by kernel_rfl) (by kernel_rfl) (fun _ _ _ h => h) (by rfl) hHeld ?_ ?_
  rotate_left
  focus (intro w hSw; have hSc := HSS.out w hSw; clear hSw; go_simp; first | done | with_reducible rfl)
  try simp only [Act.put, List.setIfInBounds_toArray, List.set_cons_zero, List.set_cons_succ]
  refine held_on (i := 6) (d := (some 12)) (v := ?_) rfl rfl (by kernel_rfl) (by kernel_rfl) (by kernel_rfl) (fun _ _ _ h => h) (by rfl) hHeld ?_ ?_
  rotate_left
  focus (intro w hSw; have hSc := HSS.out w hSw; clear hSw; go_simp; first | done | with_reducible rfl)
  try simp only [Act.put, List.setIfInBounds_toArray, List.set_cons_zero, List.set_cons_succ]
  refine held_call (i := 1) (by kernel_rfl) rfl (by rfl) (fun K hK => ?_)
  go_simp
  (refine (treeRoot_any _ _).mono ?_; rintro e w1 ⟨rfl, hx1⟩; replace hx1 := ((Ext.refl W).drew).trans hx1; have HX1 := Lib.hid hx1)
  refine hK.out _ _ (hx1.st C) (fun hHeld => ?_)
  clear hK K
  try simp only [Act.put, List.setIfInBounds_toArray, List.set_cons_zero, List.set_cons_succ]
  refine held_call (i := 7) (by kernel_rfl) rfl (by rfl) (fun K hK => ?_)
  go_simp
  (refine (HWK.out _ HX1.out).mono ?_; intro e w2 hp2; obtain ⟨b2, rfl⟩ := hp2.bool; have HP2 := Lib.hid (hp2.from HX1.out); clear hp2)
  refine hK.out _ _ (HP2.out.st) (fun hHeld => ?_)
  clear hK K
  try simp only [Act.put, List.setIfInBounds_toArray, List.set_cons_zero, List.set_cons_succ]
  refine wpAnyH_done (by kernel_rfl) ?_ _
  go_wp2_with fail
  go_end0
  refine ⟨⟨_, rfl⟩, ?_⟩
  rcases HP2.out with ⟨new, C', W0, -, h2, h3, h4, -, -⟩ | ⟨-, -, pre', W0, h2, h3, h4⟩
  · exact .inl ⟨new, C', W0, h4, h2, h3⟩
  · exact .inr ⟨pre', W0, h4, h2, h3⟩
/-- An iterator over an interval, as a value. -/
def RangePost (T : RT) (lo hi : ByteArray) (op : Bool) (w : World) (e : Ending) (w' : World) : Prop :=
  ∃ B, e = .returned (.func (.func 105) #[] (rangeL B)) ∧ Ext w w' ∧ RangeB w' B T lo hi op ∧ w.heap.size ≤ B
theorem range_any (w : World) (T : RT) (lo hi : ByteArray) (op : Bool) : Calls Try.prog 53 #[treeV T, .string lo, .string hi, .bool op] w (RangePost T lo hi op w) := by
  obtain ⟨p, hp⟩ := rootV_ptr T
  rw [treeV, hp]
  go_enter Try.func53, Try.ntmps53
  go_wp2_with fail
  go_ret
  obtain ⟨hx, -, b0, b1, b2, b3⟩ := four_blocks w 30 9 9 4 #[.pointer p] #[.string lo] #[.string hi] #[.bool op] _ rfl
  exact ⟨w.heap.size, rfl, hx, ⟨by rw [hp]; exact b0, b1, b2, b3⟩, Nat.le_refl _⟩
theorem all_any8 (w : World) (T : RT) : Calls Try.prog 64 #[treeV T] w (RangePost T ByteArray.empty ByteArray.empty true w) := by
  have hr := fun W => range_any W T ByteArray.empty ByteArray.empty true
  obtain ⟨p, hp⟩ := rootV_ptr T
  rw [treeV, hp]
  simp only [treeV, hp] at hr
  have hx0 : Ext w (w.alloc (.cells #[.pointer p] 30)) := (Ext.refl w).alloc _ _
  have HX0 := Lib.hid hx0
  have HR := Lib.hid hr
  clear hx0 hr hp
  go_enter Try.func64, Try.ntmps64
  go_wp2_with fail
  refine (HR.out _).mono ?_
  rintro e w1 ⟨B, rfl, hx1, hb1, hB⟩
  have HP := Lib.hid (show Ext w w1 ∧ RangeB w1 B T ByteArray.empty ByteArray.empty true ∧ w.heap.size ≤ B from ⟨HX0.out.trans hx1, hb1, Nat.le_trans HX0.out.size hB⟩)
  clear hx1 hb1 hB
  go_wp2_with fail
  go_ret
  exact ⟨B, rfl, HP.out.1, HP.out.2.1, HP.out.2.2⟩
end Go.Proofs.Ytpapoalgocmlaaa
namespace Go.Proofs.Ytpapoalgocmlaaa
open Go.RowKit
set_option linter.unusedVariables false
set_option linter.unusedSimpArgs false

theorem Bw.trans {a b c : World} (h : Below a.heap.size a b) (k : Below b.heap.size b c) : Below a.heap.size a c := h.trans (k.mono h.size)
theorem Bw.ext {a b c : World} (h : Below a.heap.size a b) (k : Ext b c) : Below a.heap.size a c := Bw.trans h k.below
/-- The bytes of a text. -/
theorem toList_eq' (p : ByteArray) : p.toList = p.data.toList := ByteArray.toList_eq p
theorem size_toList (p : ByteArray) : p.toList.length = p.size := by rw [toList_eq', Array.length_toList]; rfl
theorem at_toList {p : ByteArray} {i : Nat} (h : i < p.size) : p.toList[i]? = some p[i] := by
  rw [toList_eq', Array.getElem?_toList]
  exact Array.getElem?_eq_getElem h
/-- What End answers. -/
def EndPost (p : ByteArray) (w : World) (e : Ending) (w' : World) : Prop :=
  Below w.heap.size w w' ∧ ∃ (end_ : ByteArray) (ok : Bool), e = .returned (.tuple #[.string end_, .bool ok]) ∧ (match endL p.toList with | none => ok = false ∧ end_ = ByteArray.empty | some q => ok = true ∧ end_.toList = q)
theorem mk_toList (l : List UInt8) : (ByteArray.mk l.toArray).toList = l := by rw [toList_eq']
theorem split_last {p : ByteArray} {i n : Nat} (h : i < p.size) (hr : p.toList.drop (i + 1) = List.replicate n 255) : p.toList = p.toList.take i ++ p[i] :: List.replicate n 255 := by
  have h1 := at_toList h
  obtain ⟨h2, h3⟩ := List.getElem?_eq_some_iff.1 h1
  conv => lhs; rw [← List.take_append_drop i p.toList, List.drop_eq_getElem_cons h2, h3, hr]
theorem extract_toList (p : ByteArray) (k : Nat) : (p.extract 0 k).toList = p.toList.take k := by
  rw [toList_eq', toList_eq', ByteArray.data_extract]
  simp
theorem bytesRow_at {s : ByteArray} {cap i : Nat} {b : UInt8} (h : s.toList[i]? = some b) : (bytesRow s cap)[i]? = some (.int .u8 (b.toNat : Int)) := by
  rw [toList_eq', Array.getElem?_toList] at h
  have hi := (Array.getElem?_eq_some_iff.1 h).1
  unfold bytesRow
  rw [Array.getElem?_append_left (by simpa using hi), Array.getElem?_map, h]; rfl
theorem bytesRow_size (s : ByteArray) (cap : Nat) : s.size ≤ (bytesRow s cap).size := by
  unfold bytesRow
  rw [Array.size_append, Array.size_map]
  exact Nat.le_add_right _ _
/-- What '[]byte(s)' lays, and a byte written anew: as a text again. -/
theorem bytes_laid (w : World) (s : ByteArray) (cap : Nat) (t : TypeId) {i : Nat} {b c : UInt8} (hb : s.toList[i]? = some b) (W : World) (hW : W = (w.alloc (.cells (bytesRow s cap) t ((bytesRow s cap).size, (bytesRow s cap).size + 1))).drew) :
    W.cell? ⟨w.heap.size, i, none⟩ = some (.int .u8 (b.toNat : Int)) ∧ W.frozen? ⟨w.heap.size, i, none⟩ = false ∧ w.heap.size < W.heap.size ∧ Below w.heap.size w W ∧
      ∀ j (x : UInt8), (s.toList.set i c)[j]? = some x → (W.setCell ⟨w.heap.size, i, none⟩ (.int .u8 (c.toNat : Int))).cell? ⟨w.heap.size, j, none⟩ = some (.int .u8 (x.toNat : Int)) := by
  have hr : ∀ j, W.cell? ⟨w.heap.size, j, none⟩ = (bytesRow s cap)[j]? := fun j => by
    rw [hW]; exact World.cell?_alloc_mark w _ _ _ j
  have hi : i < s.size := by
    have := (List.getElem?_eq_some_iff.1 hb).1
    rwa [size_toList] at this
  have hh : W.heap[w.heap.size]? = some (.cells (bytesRow s cap) t ((bytesRow s cap).size, (bytesRow s cap).size + 1)) := by
    rw [hW]; exact heap_alloc_new w _
  refine ⟨by rw [hr]; exact bytesRow_at hb, ?_, by rw [hW]; show w.heap.size < (w.alloc _).heap.size; rw [World.size_alloc]; exact Nat.lt_succ_self _, by rw [hW]; exact ((Below.refl _ w).alloc (Nat.le_refl _) _).drew, fun j x hx => ?_⟩
  · unfold World.frozen?
    rw [hh]
    have := bytesRow_size s cap
    simp; omega
  · by_cases hj : j = i
    · subst hj
      rw [List.getElem?_set_self (List.getElem?_eq_some_iff.1 hb).1] at hx
      cases hx
      exact World.cell?_setCell_same W _ _ ((hr j).trans (bytesRow_at hb))
    · rw [List.getElem?_set_ne (fun e => hj e.symm)] at hx
      rw [cell_set_other _ _ _ _ _ (fun e => hj e.symm), hr]
      exact bytesRow_at hx
set_option maxRecDepth 100000 in
set_option maxHeartbeats 1000000 in
theorem keysEnd_any (w : World) (p : ByteArray) (hp : p.size ≤ maxLen) : Calls Try.prog 109 #[.string p] w (EndPost p w) := by
  unfold maxLen at hp
  have hcv : ∀ (s : ByteArray) (W : World), (convert 9 211 (.string s)).run Try.prog W = .ok (.slice (some ⟨W.heap.size, 0, none⟩) s.size (grownCap W s.size 0 5)) (W.drew.alloc (.cells (bytesRow s (grownCap W s.size 0 5)) 5 ((bytesRow s (grownCap W s.size 0 5)).size, (bytesRow s (grownCap W s.size 0 5)).size + 1))) :=
    fun s W => run_bytes_of_string W 9 211 5 s Try.underlying9 Try.underlying211 Try.underlying5
  have hw0 : wrap64 ((p.size : Int) - 1) = (p.size : Int) - 1 := by unfold wrap64; omega
  go_enter Try.func109, Try.ntmps109
  go_wp2_with fail
  go_step3
  go_wp2_with fail
  go_step3
  go_wp2_with fail
  go_loopw [4] (fun v wr => wr = w ∧ ((v = .int .i64 (-1) ∧ endL p.toList = none) ∨ ∃ i, i < p.size ∧ v = .int .i64 (i : Int) ∧ p.toList.drop (i + 1) = List.replicate (p.size - (i + 1)) 255)) (fun v _ => (intOf v + 1).toNat)
  case atStart =>
    refine ⟨rfl, ?_⟩
    by_cases h0 : p.size = 0
    · refine .inl ⟨by rw [h0]; rfl, ?_⟩
      have : p.toList = [] := List.eq_nil_of_length_eq_zero (by rw [size_toList]; exact h0)
      rw [this]; rfl
    · refine .inr ⟨p.size - 1, by omega, by congr 1; omega, ?_⟩
      rw [List.drop_eq_nil_of_le (by rw [size_toList]; omega), show p.size - (p.size - 1 + 1) = 0 from by omega]; rfl
  case round =>
    obtain ⟨rfl, ⟨rfl, hn⟩ | ⟨i, hi, rfl, hr⟩⟩ := hrel
    · have HN := Lib.hid hn
      clear hn
      go_wp2_with fail
      rw [Exit.noGoto_ret]
      refine bodyPost_ret (v := .tuple #[.string ByteArray.empty, .bool false]) (by simp [results, Try.results109, go_sem]; rfl) rfl ?_
      exact ⟨Below.refl _ _, ByteArray.empty, false, rfl, by rw [HN.out]; exact ⟨rfl, rfl⟩⟩
    · have hi' : (i : Int) < (p.size : Int) := by omega
      have hi0 : (0 : Int) ≤ (i : Int) := by omega
      have hsp := split_last hi hr
      have HSP := Lib.hid hsp
      have HR := Lib.hid hr
      have hw1 : wrap64 ((i : Int) - 1) = (i : Int) - 1 := by unfold wrap64; omega
      clear hsp hr
      by_cases hff : p[i] = 255
      · have hb1 : (((p[i].toNat : Nat) : Int) != 255) = false := by rw [hff]; rfl
        go_wp2_with fail
        go_roundw
        case rel =>
          refine ⟨trivial, ?_⟩
          cases i with
          | zero =>
            refine .inl ⟨rfl, ?_⟩
            rw [HSP.out, hff, List.take_zero, List.nil_append, ← List.replicate_succ]
            exact endL_ff _
          | succ i =>
            refine .inr ⟨i, by omega, by simp, ?_⟩
            have h2 : p.toList.drop (i + 1) = p[i + 1] :: p.toList.drop (i + 1 + 1) := by
              have h1 := at_toList hi
              obtain ⟨h2, h3⟩ := List.getElem?_eq_some_iff.1 h1
              rw [List.drop_eq_getElem_cons h2, h3]
            rw [h2, HR.out, hff, ← List.replicate_succ]
            congr 1; omega
        case measure => simp [intOf]
      · have hb1 : (((p[i].toNat : Nat) : Int) != 255) = true := bne_iff_ne.2 fun e => hff (UInt8.toNat_inj.1 (by show p[i].toNat = 255; omega))
        have hmin : min (i + 1) p.size = i + 1 := by omega
        have hexs : (p.extract 0 (i + 1)).size = i + 1 := by rw [← size_toList, extract_toList, List.length_take, size_toList]; omega
        have hlt256 : p[i].toNat < 256 := p[i].toNat_lt
        have hw8 : IntKind.u8.wrap ((p[i].toNat : Int) + 1) = (p[i].toNat : Int) + 1 := by
          have : p[i].toNat ≠ 255 := fun e => hff (UInt8.toNat_inj.1 e)
          rw [IntKind.wrap_u8]; omega
        obtain ⟨q, hq⟩ : ∃ q, q = (p.extract 0 (i + 1)).toList.set i (p[i] + 1) := ⟨_, rfl⟩
        have hext : (p.extract 0 (i + 1)).toList = p.toList.take i ++ [p[i]] := by
          rw [extract_toList, List.take_add_one, at_toList hi]; rfl
        have htl : (p.toList.take i).length = i := by rw [List.length_take, size_toList]; omega
        have hqe : q = p.toList.take i ++ [p[i] + 1] := by
          rw [hq, hext, List.set_append_right _ _ (by omega), htl, Nat.sub_self]; rfl
        have hql : q.length = i + 1 := by rw [hqe, List.length_append, htl]; rfl
        have hend : endL p.toList = some q := by rw [HSP.out, endL_at hff, hqe]
        have hib : (p.extract 0 (i + 1)).toList[i]? = some p[i] := by rw [hext, List.getElem?_append_right (by omega), htl, Nat.sub_self]; rfl
        have hbn : ((p[i] + 1).toNat : Int) = (p[i].toNat : Int) + 1 := by
          have h1 : (p[i] + 1).toNat = p[i].toNat + 1 := by
            rw [UInt8.toNat_add]
            have : p[i].toNat ≠ 255 := fun e => hff (UInt8.toNat_inj.1 e)
            show (p[i].toNat + 1) % 256 = _
            omega
          omega
        have hcb : ∀ W : World, (∀ j (hj : j < q.length), W.cell? ((⟨wr.heap.size, 0, none⟩ : Addr).add j) = some (.int .u8 (q[j].toNat : Int))) → ∀ cap, (convert 211 9 (.slice (some ⟨wr.heap.size, 0, none⟩) (i + 1) cap)).run Try.prog W = .ok (.string ⟨q.toArray⟩) W := fun W h cap => by
          have := run_convert_bytes_back (P := Try.prog) W 211 9 5 ⟨wr.heap.size, 0, none⟩ cap q Try.underlying211 Try.underlying5 Try.underlying9 h
          rwa [hql] at this
        have HCB := Lib.hid hcb
        have HEND := Lib.hid hend
        have HQ := Lib.hid hq
        have HIB := Lib.hid hib
        have HBN := Lib.hid hbn
        clear hq hext htl hqe hql hend hib hbn hcb
        go_upto_region 8 with (fail)
        generalize hW2 : World.drew _ = W2
        obtain ⟨c2, f2, l2, hbl2, hset⟩ := bytes_laid wr (p.extract 0 (i + 1)) _ _ (c := p[i] + 1) HIB.out W2 hW2.symm
        rw [HBN.out, ← HQ.out] at hset
        have HS2 := Lib.hid hset
        have HBL := Lib.hid hbl2
        clear hW2 hset hbl2 hcv
        go_upto_region 9 with (fail)
        have hcb := HCB.out (W2.setCell ⟨wr.heap.size, i, none⟩ (.int .u8 ((p[i].toNat : Int) + 1))) (fun j hj => by
          rw [add_at, Nat.zero_add]
          exact HS2.out j _ (List.getElem?_eq_getElem hj))
        go_wp2_with fail
        rw [Exit.noGoto_ret]
        refine bodyPost_ret (v := .tuple #[.string ⟨q.toArray⟩, .bool true]) (by simp [results, Try.results109, go_sem]) rfl ?_
        exact ⟨HBL.out.setCell (p := ⟨wr.heap.size, i, none⟩) (Nat.le_refl _) _, _, _, rfl, by rw [HEND.out]; exact ⟨rfl, mk_toList q⟩⟩
end Go.Proofs.Ytpapoalgocmlaaa
namespace Go.Proofs.Ytpapoalgocmlaaa
open Go.RowKit Go.Shelf
set_option linter.unusedVariables false
set_option linter.unusedSimpArgs false

/-- The entries whose keys begin so. -/
def prefixE (p : ByteArray) (es : List Ent) : List Ent := es.filter fun e => p.toList.isPrefixOf e.1.toList
theorem EndPost.range {p : ByteArray} {w : World} {e : Ending} {w' : World} (h : EndPost p w e w') : ∃ (en : ByteArray) (ok : Bool), e = .returned (.tuple #[.string en, .bool ok]) ∧ Below w.heap.size w w' ∧ ∀ es, rangeE p en (!ok) es = prefixE p es := by
  obtain ⟨hb, en, ok, he, hm⟩ := h
  refine ⟨en, ok, he, hb, fun es => ?_⟩
  refine List.filter_congr fun x _ => ?_
  rw [begins_iff]
  cases hE : endL p.toList with
  | none =>
    rw [hE] at hm
    obtain ⟨rfl, -⟩ := hm
    rfl
  | some q =>
    rw [hE] at hm
    obtain ⟨rfl, hq⟩ := hm
    simp only [inI, Bool.not_true, Bool.false_or, klt, hq]
def PrefixPost (T : RT) (p : ByteArray) (w : World) (e : Ending) (w' : World) : Prop :=
  ∃ (B : Nat) (en : ByteArray) (op : Bool), e = .returned (.func (.func 105) #[] (rangeL B)) ∧ Below w.heap.size w w' ∧ RangeB w' B T p en op ∧ w.heap.size ≤ B ∧ ∀ es, rangeE p en op es = prefixE p es
set_option maxRecDepth 100000 in
theorem prefix_any (w : World) (T : RT) (p : ByteArray) (hp : p.size ≤ maxLen) : Calls Try.prog 56 #[treeV T, .string p] w (PrefixPost T p w) := by
  have hr := fun W lo hi op => range_any W T lo hi op
  have hke := fun W => keysEnd_any W p hp
  obtain ⟨r, hpr⟩ := rootV_ptr T
  rw [treeV, hpr]
  simp only [treeV, hpr] at hr
  have hx0 : Ext w (w.alloc (.cells #[.pointer r] 30)) := (Ext.refl w).alloc _ _
  have hb0 := Blk.new w 30 #[.pointer r]
  have HX0 := Lib.hid hx0
  have HB0 := Lib.hid hb0
  have HR := Lib.hid hr
  have HKE := Lib.hid hke
  clear hx0 hb0 hr hpr hke
  go_enter Try.func56, Try.ntmps56
  go_wp2_with fail
  refine (HKE.out _).mono ?_
  intro e w1 he
  obtain ⟨en, ok, rfl, hb1, hen⟩ := he.range
  have hbw := Bw.trans HX0.out.below hb1
  have c0 : w1.cell? ⟨w.heap.size, 0, none⟩ = some (.pointer r) := (HB0.out.agree (Agree.of_below hb1 (F := Lt (w.alloc (.cells #[.pointer r] 30)).heap.size) fun _ h => h) HB0.out.lt).cell 0
  have HBW := Lib.hid hbw
  have HEN := Lib.hid hen
  clear he hb1 hen hbw
  go_wp2_with fail
  refine (HR.out _ _ _ _).mono ?_
  rintro e w2 ⟨B, rfl, hx2, hrb, hB⟩
  have HP := Lib.hid (show Below w.heap.size w w2 ∧ RangeB w2 B T p en (!ok) ∧ w.heap.size ≤ B from ⟨Bw.ext HBW.out hx2, hrb, Nat.le_trans HBW.out.size hB⟩)
  clear hx2 hrb hB
  go_wp2_with fail
  go_ret
  exact ⟨B, en, !ok, rfl, HP.out.1, HP.out.2.1, HP.out.2.2, HEN.out⟩
end Go.Proofs.Ytpapoalgocmlaaa
namespace Go.Proofs.Ytpapoalgocmlaaa
open Go.RowKit Go.Shelf
set_option linter.unusedVariables false
set_option linter.unusedSimpArgs false
attribute [local go_sem] Oper.semAt_some

/-- Blocks at 7 cells of one entry. -/
abbrev cells7 (x : LE) : Array Value := #[.string x.k, .int .i64 x.v.kind, .bool x.v.b, .int .i64 x.v.i, .string x.v.t, .slice x.sl.a x.v.l.length x.sl.c, .slice x.so.a x.v.ok.length x.so.c]
abbrev cells6 (x : LE) : Array Value := #[.int .i64 x.v.kind, .bool x.v.b, .int .i64 x.v.i, .string x.v.t, .slice x.sl.a x.v.l.length x.sl.c, .slice x.so.a x.v.ok.length x.so.c]
/-- What From holds where its round returned. -/
structure FromX (w w1 : World) (all : List Ent) (pre : List LE) (W : World) : Prop where
  ex : ∃ x, pre = [x] ∧ all[0]? = some x.ent ∧ Blk W (w.heap.size + 1) 56 (cells7 x) ∧ RV W (fun b => w1.heap.size + 2 ≤ b ∧ b < W.heap.size) x.v x.sl x.so
  bo : Blk W (w.heap.size + 2) 4 #[.bool true]
  ext : Ext w W
theorem FromX.turn {w w1 : World} {all : List Ent} {pre : List LE} {W W' : World} (h : FromX w w1 all pre W) (hw : w.heap.size + 3 ≤ w1.heap.size) (k : St (fun b => b = w1.heap.size + 1) W W') : FromX w w1 all pre W' := by
  obtain ⟨⟨x, h1, h2, h3, h4⟩, h5, h6⟩ := h
  exact ⟨⟨x, h1, h2, k.blk h3 (by omega), (h4.agree (k.agree.mono fun i hi => ⟨hi.2, by omega⟩)).mono fun i hi => ⟨hi.1, Nat.lt_of_lt_of_le hi.2 k.size⟩⟩, k.blk h5 (by omega), h6.step k (fun b hb => by omega)⟩
set_option maxRecDepth 100000 in
set_option maxHeartbeats 4000000 in
theorem treeFrom_any {F : Nat → Prop} {T : RT} {w : World} (hT : TreeAt F T w) (ok : OkR T) (hl : (entsT T).length ≤ 1000000) (k : ByteArray) : Calls Try.prog 59 #[treeV T, .string k] w (AtIPost (entsT T)[posE (entsT T) k]? w) := by
  have hra := fun W => range_any W T k ByteArray.empty true
  have hse := fun W1 (hW : Ext w W1) B (hB : RangeB W1 B T k ByteArray.empty true) => range_seq (hT.ext hW) ok hl hB
  have hall : rangeE k ByteArray.empty true (entsT T) = (entsT T).drop (posE (entsT T) k) := rangeE_open ok.sorted k _
  have hFl := hT.2
  obtain ⟨o, ho⟩ : ∃ o, (entsT T)[posE (entsT T) k]? = o := ⟨_, rfl⟩
  have ho0 : (rangeE k ByteArray.empty true (entsT T))[0]? = o := by rw [hall, List.getElem?_drop, Nat.add_zero, ho]
  rw [ho]
  generalize rangeE k ByteArray.empty true (entsT T) = all at *
  obtain ⟨p, hp⟩ := rootV_ptr T
  rw [treeV, hp]
  simp only [treeV, hp] at hra
  have HRA := Lib.hid hra
  have HSE := Lib.hid hse
  have HFL := Lib.hid hFl
  have HO := Lib.hid ho0
  clear hT ok hl hra hse hall hp ho hFl ho0
  refine (callsIn_wide (n := 6)).1 ?_
  refine callsIn_of_wp_marks Try.func59 rfl trivial ?_ rfl
  simp only [Try.ntmps59, List.size_toArray, List.length_cons, List.length_nil, Nat.reduceAdd, Nat.reduceSub, Array.replicate_succ, Array.replicate_zero, List.push_toArray, List.append_toArray, List.nil_append, List.cons_append]
  gi_wp2_with fail
  generalize hW0 : World.alloc (World.alloc (World.alloc _ _) _) _ = W0
  obtain ⟨hx0, hz0, hb0, hb1, hb2⟩ := three_blocks w _ _ _ _ _ _ W0 hW0
  have q0 : W0.cell? ⟨w.heap.size, 0, none⟩ = some (.pointer p) := hb0.cell 0
  have HX0 := Lib.hid hx0
  have HB1 := Lib.hid hb1
  have HB2 := Lib.hid hb2
  clear hW0 hx0 hb0 hb1 hb2
  refine ⟨trivial, ?_⟩
  refine (callsIn_wide.2 (HRA.out W0)).mono ?_
  rintro e w1 ⟨B, rfl, hx1, hrb, hB⟩
  have HX1 := Lib.hid (HX0.out.trans hx1)
  have HC1 := Lib.hid (HB1.out.ext hx1)
  have HC2 := Lib.hid (HB2.out.ext hx1)
  have HSQ := Lib.hid (HSE.out w1 (HX0.out.trans hx1) B hrb)
  have hBl := hrb.lt
  have hs1 := hx1.size
  clear hx1 hrb q0 HRA HSE
  gi_wp2_with fail
  refine wpIn_rangeC (gf := 105) (lb := rangeL B) rfl (enters_of Try.func105 (by kernel_rfl) rfl) HSQ.out (Agree.refl _) (Nat.le_refl _)
    (fun b hb => hb.elim (fun h => by have := HFL.out b h; have := HX1.out.size; omega) (fun h => by omega)) (fun _ => rfl)
    (fun pre C W => pre = [] ∧ C = (fun b => b = w.heap.size + 1 ∨ b = w.heap.size + 2) ∧ Ext w1 W) (fun c pre W => c = .ret ∧ FromX w w1 all pre W) (fun b => b = w.heap.size + 1 ∨ b = w.heap.size + 2)
    (fun b hb => ⟨by omega, fun h => h.elim (fun h => by have := HFL.out b h; omega) (fun h => by omega)⟩)
    (fun h k => ⟨h.1, h.2.1, h.2.2.step k (fun b hb => by omega)⟩) (fun h k => ⟨h.1, h.2.turn (by omega) k⟩) (fun W hW _ => ⟨rfl, rfl, hW⟩) ?round ?done ?stop
  case round =>
    rintro pre C x W0' W1 ⟨rfl, rfl, hx0'⟩ hlt hsz hnL hx01 hG
    have hb3 := Blk.new W1 49 (cells6 x)
    have hx3 : Ext W1 (W1.alloc (.cells (cells6 x) 49)) := (Ext.refl W1).alloc _ _
    have HB3 := Lib.hid hb3
    have HX3 := Lib.hid hx3
    have HX01 := Lib.hid (hx0'.trans hx01)
    have HG := Lib.hid hG
    have hs01 := hx01.size
    clear hb3 hx3 hx0' hx01 hG hlt hnL
    gi_wp2_with fail
    refine ⟨HX3.out, fun W3 k3 => ?_⟩
    have hbv := k3.blk HB3.out (by omega)
    obtain ⟨c0, c1, c2, c3, c4, c5⟩ := hbv.c6
    have hr1 := k3.blk (HC1.out.ext (HX01.out.trans HX3.out)) (by omega)
    have hr2 := k3.blk (HC2.out.ext (HX01.out.trans HX3.out)) (by omega)
    obtain ⟨d0, d1, d2, d3, d4, d5, d6⟩ := hr1.c7
    have e0 := hr2.cell 0
    have f1 := hr1.frozen
    have f2 := hr2.frozen
    have l1 := hr1.lt
    have l2 := hr2.lt
    have HR1 := Lib.hid hr1
    have HR2 := Lib.hid hr2
    have hE3 : Ext w W3 := ((HX1.out.trans HX01.out).trans HX3.out).step k3 (fun b hb => by have := HX1.out.size; omega)
    have hrv : RV W3 (In W0'.heap.size W1.heap.size) x.v x.sl x.so := (HG.out.val.agree (HX3.out.agree fun b hb => hb.2)).agree (k3.agree.mono fun i hi => ⟨Nat.lt_of_lt_of_le hi.2 HX3.out.size, by have := hi.1; omega⟩)
    have hs3 : W1.heap.size ≤ W3.heap.size := Nat.le_trans HX3.out.size k3.size
    have HE3 := Lib.hid hE3
    have HRV := Lib.hid hrv
    have HK3 := Lib.hid k3
    clear hbv hr1 hr2 k3 hE3 hrv
    gi_wp2_with fail
    have hB1 : Blk ((putM W3 (w.heap.size + 1) 0 x.k x.v x.sl x.so).setCell ⟨w.heap.size + 2, 0, none⟩ (.bool true)) (w.heap.size + 1) 56 (cells7 x) :=
      (((((((HR1.out.set_ 0 _).set_ 1 _).set_ 2 _).set_ 3 _).set_ 4 _).set_ 5 _).set_ 6 _).far (p := ⟨w.heap.size + 2, 0, none⟩) (by simp) _
    have hP : St (fun b => b = w.heap.size + 1) W3 (putM W3 (w.heap.size + 1) 0 x.k x.v x.sl x.so) := St.putM (H := fun b => b = w.heap.size + 1) (b := w.heap.size + 1) (St.refl _ W3) (.inr rfl) 0 x.k x.v x.sl x.so
    have hP2 : St (fun b => b = w.heap.size + 1 ∨ b = w.heap.size + 2) W3 ((putM W3 (w.heap.size + 1) 0 x.k x.v x.sl x.so).setCell ⟨w.heap.size + 2, 0, none⟩ (.bool true)) := (hP.mono fun i _ hi => .inl hi).set (p := ⟨w.heap.size + 2, 0, none⟩) (.inr (.inr rfl)) _
    have hB2 : Blk ((putM W3 (w.heap.size + 1) 0 x.k x.v x.sl x.so).setCell ⟨w.heap.size + 2, 0, none⟩ (.bool true)) (w.heap.size + 2) 4 #[.bool true] := (hP.blk HR2.out (by omega)).set_ 0 _
    refine ⟨hP2, rfl, ⟨⟨x, rfl, HG.out.at_, hB1, ?_⟩, hB2, HE3.out.step hP2 (fun b hb => by omega)⟩⟩
    exact (HRV.out.agree (hP2.agree.mono fun i hi => ⟨by have := hi.2; omega, by have := hi.1; have := HX1.out.size; omega⟩)).mono fun i hi => ⟨by have := hi.1; omega, Nat.lt_of_lt_of_le hi.2 (Nat.le_trans hs3 hP2.size)⟩
  case stop =>
    rintro D c pre W hD hSp ⟨rfl, hX⟩ hDk
    have hk : St (fun b => b = D) W (W.putObj D (.deferred none)) := St.put hDk rfl rfl
    obtain ⟨⟨x, rfl, hx0, hb1, hrv⟩, hb2, hE⟩ := hX
    have hb1' := hk.blk hb1 (by omega)
    have hb2' := hk.blk hb2 (by omega)
    obtain ⟨d0, d1, d2, d3, d4, d5, d6⟩ := hb1'.c7
    have e0 := hb2'.cell 0
    have hE' := hE.step hk (fun b hb => by have := HX1.out.size; omega)
    have hrv' : RV (W.putObj D (.deferred none)) (fun b => w1.heap.size + 2 ≤ b ∧ b < (W.putObj D (.deferred none)).heap.size) x.v x.sl x.so := (hrv.agree (hk.agree.mono fun i hi => ⟨hi.2, by omega⟩)).mono fun i hi => ⟨hi.1, Nat.lt_of_lt_of_le hi.2 hk.size⟩
    have ho : o = some x.ent := by rw [← HO.out]; exact hx0
    gi_wp2_with fail
    refine ⟨by simp, .inl ⟨_, _, rfl, run_takeDeferred hDk, ?_⟩⟩
    refine ⟨.tuple #[aggE x.k x.v x.sl x.so, .bool true], ?_, ?_⟩
    · simp [results, Try.f59, go_sem, d0, d1, d2, d3, d4, d5, d6, e0]
    · rw [ho]
      exact ⟨x.sl, x.so, rfl, hE', hrv'.mono fun i hi => ⟨by have := hi.1; have := HX1.out.size; omega, hi.2⟩⟩
  case done => 
    rintro D xs C W hD hS ⟨rfl, rfl, hx⟩ hDk
    have hr1 := HC1.out.ext hx
    have hr2 := HC2.out.ext hx
    obtain ⟨d0, d1, d2, d3, d4, d5, d6⟩ := hr1.c7
    have e0 := hr2.cell 0
    have f1 := hr1.frozen
    have f2 := hr2.frozen
    have l1 := hr1.lt
    have l2 := hr2.lt
    have HR1 := Lib.hid hr1
    have HR2 := Lib.hid hr2
    have HX := Lib.hid (HX1.out.trans hx)
    have HDK := Lib.hid hDk
    have ho : o = none := by rw [← HO.out, ← hS]; rfl
    subst ho
    clear hr1 hr2 hx hDk hS
    gi_wp2_with fail
    have hB1 : Blk ((putM W (w.heap.size + 1) 0 ByteArray.empty zeroV Sl.none Sl.none).setCell ⟨w.heap.size + 2, 0, none⟩ (.bool false)) (w.heap.size + 1) 56 zero7 :=
      (((((((HR1.out.set_ 0 _).set_ 1 _).set_ 2 _).set_ 3 _).set_ 4 _).set_ 5 _).set_ 6 _).far (p := ⟨w.heap.size + 2, 0, none⟩) (by simp) _
    have hP : St (fun b => b = w.heap.size + 1) W (putM W (w.heap.size + 1) 0 ByteArray.empty zeroV Sl.none Sl.none) := St.putM (H := fun b => b = w.heap.size + 1) (b := w.heap.size + 1) (St.refl _ W) (.inr rfl) 0 ByteArray.empty zeroV Sl.none Sl.none
    have hP2 : St (fun b => b = w.heap.size + 1 ∨ b = w.heap.size + 2) W ((putM W (w.heap.size + 1) 0 ByteArray.empty zeroV Sl.none Sl.none).setCell ⟨w.heap.size + 2, 0, none⟩ (.bool false)) := (hP.mono fun i _ hi => .inl hi).set (p := ⟨w.heap.size + 2, 0, none⟩) (.inr (.inr rfl)) _
    have hB2 : Blk ((putM W (w.heap.size + 1) 0 ByteArray.empty zeroV Sl.none Sl.none).setCell ⟨w.heap.size + 2, 0, none⟩ (.bool false)) (w.heap.size + 2) 4 #[.bool false] := (hP.blk HR2.out (by omega)).set_ 0 _
    have hD2 := (hP2.block D (Array.getElem?_eq_some_iff.1 HDK.out).1 (by omega)).trans HDK.out
    have hE := HX.out.step hP2 (fun b hb => by omega)
    have HH := Lib.hid (And.intro hB1 hB2)
    clear hP hP2 hB1 hB2
    change LeavesInM _ _ _ _ _ _ _ _ ((putM W (w.heap.size + 1) 0 ByteArray.empty zeroV Sl.none Sl.none).setCell ⟨w.heap.size + 2, 0, none⟩ (.bool false))
    generalize (putM W (w.heap.size + 1) 0 ByteArray.empty zeroV Sl.none Sl.none).setCell ⟨w.heap.size + 2, 0, none⟩ (.bool false) = W9 at *
    have hk : St (fun b => b = D) W9 (W9.putObj D (.deferred none)) := St.put hD2 rfl rfl
    have hb1' := hk.blk HH.out.1 (by omega)
    have hb2' := hk.blk HH.out.2 (by omega)
    obtain ⟨d0, d1, d2, d3, d4, d5, d6⟩ := hb1'.c7
    have e0 := hb2'.cell 0
    have hE' := hE.step hk (fun b hb => by have := HX1.out.size; omega)
    refine ⟨by simp, .inl ⟨_, _, rfl, run_takeDeferred hD2, ?_⟩⟩
    refine ⟨.tuple #[aggE ByteArray.empty zeroV Sl.none Sl.none, .bool false], ?_, ?_⟩
    · simp [results, Try.f59, go_sem, d0, d1, d2, d3, d4, d5, d6, e0]; repeat (first | rfl | constructor)
    · exact ⟨Sl.none, Sl.none, rfl, hE', RV.flat _ _ _ _ _ _ (by decide) (by decide) (by decide)⟩
end Go.Proofs.Ytpapoalgocmlaaa
namespace Go.Proofs.Ytpapoalgocmlaaa
open Go.RowKit Go.Shelf
set_option linter.unusedVariables false
set_option linter.unusedSimpArgs false
attribute [local go_sem] Oper.semAt_some

theorem Try.infoString1 : (Try.prog.info? 9).map (fun i => (i.zero, i.size, i.bytes)) = some (some (.string ByteArray.empty), 1, 16) := by kernel_rfl
/-- The keys gathered so far, in the box B. -/
structure CollK (w : World) (B : Nat) (ks : List ByteArray) (C : Nat → Prop) (W : World) : Prop where
  ex : ∃ s : Sl, (C = fun b => b = B ∨ s.row = some b) ∧ Blk W B 102 #[.slice s.a ks.length s.c] ∧ W.ownsRow (w.heap.size + 2) 9 1 (.slice s.a ks.length s.c) ks.length (ks.map .string)
  st : St (fun b => b = B) w W
  sz : w.heap.size + 2 ≤ W.heap.size
theorem CollK.start {w W : World} {B : Nat} (hb : Blk w B 102 #[.slice none 0 0]) (hx : Ext w W) (hz : w.heap.size + 2 ≤ W.heap.size) : CollK w B [] (fun b => b = B) W :=
  ⟨⟨Sl.none, by funext b; simp [Sl.row], hb.ext hx, World.ownsRow_nil _ _ _ _⟩, hx.st _, hz⟩
theorem own_agree' {w w' : World} {base e size n : Nat} {s : Sl} {xs : List Value} (h : w.ownsRow base e size (.slice s.a n s.c) n xs) (ha : Agree (In base w.heap.size) w w') : w'.ownsRow base e size (.slice s.a n s.c) n xs :=
  own_agree h ha fun b hb => ⟨(own_row h hb).1, (own_row h hb).2⟩
theorem CollK.turn {w W W' : World} {B : Nat} {ks : List ByteArray} {C : Nat → Prop} (h : CollK w B ks C W) (hB : B < w.heap.size) (k : St (fun b => b = w.heap.size + 1) W W') : CollK w B ks C W' := by
  obtain ⟨⟨s, h1, h2, h3⟩, h5, h6⟩ := h
  exact ⟨⟨s, h1, k.blk h2 (by omega), own_agree' h3 (k.agree.mono fun i hi => ⟨hi.2, by have := hi.1; omega⟩)⟩, h5.then k (fun i hi e => by omega), Nat.le_trans h6 k.size⟩
theorem collK_end {w W0 W3 W4 w5 : World} {B : Nat} {s s3 : Sl} {ks : List ByteArray} {x : ByteArray} (hB : B < w.heap.size) (hblk : Blk W0 B 102 #[.slice s.a ks.length s.c]) (ho : W0.ownsRow (w.heap.size + 2) 9 1 (.slice s.a ks.length s.c) ks.length (ks.map .string)) (hst : St (fun b => b = B) w W0) (hsz : w.heap.size + 2 ≤ W0.heap.size)
    (h03 : St (fun b => b = w.heap.size + 1) W0 W3) (h34 : Ext W3 W4) (hown : w5.ownsRow (w.heap.size + 2) 9 1 (.slice s3.a (ks.length + 1) s3.c) (ks.length + 1) (ks.map .string ++ [.string x])) (hwr : Wr W4 w5 s.row) (hs3 : s3.a = s.a ∨ s3.a = some ⟨W4.heap.size, 0, none⟩ ∧ Wr W4 w5 none) :
    CollK w B (ks ++ [x]) (fun b => b = B ∨ s3.row = some b) (w5.setCell ⟨B, 0, none⟩ (.slice s3.a (ks.length + 1) s3.c)) ∧ St (fun b => b = B ∨ s.row = some b) W3 (w5.setCell ⟨B, 0, none⟩ (.slice s3.a (ks.length + 1) s3.c)) ∧
      (∀ b, (b = B ∨ s3.row = some b) → (b = B ∨ s.row = some b) ∨ W3.heap.size ≤ b) ∧ (∀ b, (b = B ∨ s3.row = some b) → b < (w5.setCell ⟨B, 0, none⟩ (.slice s3.a (ks.length + 1) s3.c)).heap.size) := by
  have hrow0 : ∀ b, s.row = some b → w.heap.size + 2 ≤ b ∧ b < W0.heap.size := fun b hb => own_row ho hb
  have hs03 := h03.size
  have hs34 := h34.size
  have hs45 := hwr.grown.size
  have hs2 : ∀ b, s3.row = some b → s.row = some b ∨ W4.heap.size ≤ b := by
    intro b hb
    rcases hs3 with h | ⟨h, -⟩
    · exact .inl (by rw [← hb]; simp [Sl.row, h])
    · right; rw [Sl.row, h] at hb; simp at hb; omega
  have hset : St (fun b => b = B) w5 (w5.setCell ⟨B, 0, none⟩ (.slice s3.a (ks.length + 1) s3.c)) := (St.refl (fun b => b = B) w5).set (p := ⟨B, 0, none⟩) (.inr rfl) _
  have hst45 : St (fun b => s.row = some b) W4 w5 := hwr.st fun i hi => hi
  have hst36 : St (fun b => b = B ∨ s.row = some b) W3 (w5.setCell ⟨B, 0, none⟩ (.slice s3.a (ks.length + 1) s3.c)) := ((h34.st _).trans (hst45.mono fun i _ hi => .inr hi)).trans (hset.mono fun i _ hi => .inl hi)
  have hst06 : St (fun b => b = w.heap.size + 1 ∨ b = B ∨ s.row = some b) W0 (w5.setCell ⟨B, 0, none⟩ (.slice s3.a (ks.length + 1) s3.c)) := (h03.mono fun i _ hi => .inl hi).trans (hst36.mono fun i _ hi => .inr hi)
  have hB5 : Blk w5 B 102 #[.slice s.a ks.length s.c] := hst45.blk ((h03.blk hblk (by omega)).ext h34) (fun e => by have := (hrow0 B e).1; omega)
  have hrow5 : ∀ b, s3.row = some b → b < w5.heap.size := fun b hb => (own_row hown hb).2
  have hx : (ks ++ [x]).length = ks.length + 1 := by simp
  refine ⟨⟨⟨s3, rfl, ?_, ?_⟩, ?_, by rw [World.size_setCell]; omega⟩, hst36, ?_, ?_⟩
  · rw [hx]; exact hB5.set_ 0 _
  · rw [hx, List.map_append]
    exact own_agree' hown (hset.agree.mono fun i hi => ⟨hi.2, by have := hi.1; omega⟩)
  · exact hst.then hst06 fun i hi h => by
      rcases h with h | h | h
      · omega
      · exact h
      · have := (hrow0 i h).1; omega
  · rintro b (rfl | hb)
    · exact .inl (.inl rfl)
    · rcases hs2 b hb with h | h
      · exact .inl (.inr h)
      · exact .inr (by omega)
  · rintro b (rfl | hb)
    · have := hst.size; rw [World.size_setCell]; omega
    · rw [World.size_setCell]; exact hrow5 b hb
/-- What Keys hands back. -/
def KeysPost (ks : List ByteArray) (w : World) (e : Ending) (w' : World) : Prop :=
  ∃ s : Sl, e = .returned (.slice s.a ks.length s.c) ∧ Below w.heap.size w w' ∧ Rd w' (Lt w'.heap.size) 1 s ks.length (ks.map .string)
set_option maxRecDepth 100000 in
set_option maxHeartbeats 4000000 in
theorem treeKeys_any {F : Nat → Prop} {T : RT} {w : World} (hT : TreeAt F T w) (ok : OkR T) (hl : (entsT T).length ≤ 1000000) (k : ByteArray) (hk : k.size ≤ maxLen) : Calls Try.prog 57 #[treeV T, .string k] w (KeysPost ((prefixE k (entsT T)).map Prod.fst) w) := by
  obtain ⟨i0, hi, hz0, hz1, hz2⟩ := info_parts Try.infoString1
  have hra := fun W => prefix_any W T k hk
  have hse := fun W1 (hA : Agree (Lt w.heap.size) w W1) (hz : w.heap.size ≤ W1.heap.size) B lo hi op (hB : RangeB W1 B T lo hi op) => range_seq (lo := lo) (hi := hi) (op := op) (show TreeAt F T W1 from ⟨hT.1.agree (hA.mono hT.2), fun b hb => Nat.lt_of_lt_of_le (hT.2 b hb) hz⟩) ok hl hB
  have hFl := hT.2
  have hlen : (prefixE k (entsT T)).length ≤ 1000000 := Nat.le_trans (List.length_filter_le _ _) hl
  obtain ⟨p, hp⟩ := rootV_ptr T
  rw [treeV, hp]
  simp only [treeV, hp] at hra
  have HRA := Lib.hid hra
  have HSE := Lib.hid hse
  have HFL := Lib.hid hFl
  clear hT ok hra hse hp hFl
  refine (callsIn_wide (n := 6)).1 ?_
  refine callsIn_of_wp_marks Try.func57 rfl trivial ?_ rfl
  simp only [Try.ntmps57, List.size_toArray, List.length_cons, List.length_nil, Nat.reduceAdd, Nat.reduceSub, Array.replicate_succ, Array.replicate_zero, List.push_toArray, List.append_toArray, List.nil_append, List.cons_append]
  gi_wp2_with fail
  generalize hW0 : World.alloc (World.alloc _ _) _ = W0
  obtain ⟨hx0, hz0', hb0, hb1⟩ := two_blocks w _ _ _ _ W0 hW0
  have q0 : W0.cell? ⟨w.heap.size, 0, none⟩ = some (.pointer p) := hb0.cell 0
  have HX0 := Lib.hid hx0
  have HB1 := Lib.hid hb1
  clear hW0 hx0 hb0 hb1
  refine ⟨trivial, ?_⟩
  refine (callsIn_wide.2 (HRA.out W0)).mono ?_
  rintro e w1 ⟨B, en, op, rfl, hbw, hrb, hB, hpe⟩
  have hbw1 := Bw.trans HX0.out.below hbw
  have hC1 : Blk w1 (w.heap.size + 1) 102 #[.slice none 0 0] := HB1.out.agree (Agree.of_below hbw (F := Lt W0.heap.size) fun _ h => h) (by show _ < _; omega)
  have HSQ := Lib.hid (HSE.out w1 (Agree.of_below hbw1 (F := Lt w.heap.size) fun _ h => h) hbw1.size B k en op hrb)
  have HB1' := Lib.hid hbw1
  have HC1 := Lib.hid hC1
  have HPE := Lib.hid (hpe (entsT T))
  have hBl := hrb.lt
  have hs1 := hbw1.size
  have hl1 : w.heap.size + 1 < w1.heap.size := hC1.lt
  clear hbw hrb q0 HRA HSE hbw1 hC1 hpe HB1
  rw [HPE.out] at HSQ
  gi_wp2_with fail
  refine wpIn_rangeC (gf := 105) (lb := rangeL B) rfl (enters_of Try.func105 (by kernel_rfl) rfl) HSQ.out (Agree.refl _) (Nat.le_refl _)
    (fun b hb => hb.elim (fun h => by have := HFL.out b h; omega) (fun h => by omega)) (fun _ => rfl)
    (fun pre C W => CollK w1 (w.heap.size + 1) (pre.map LE.k) C W) (fun _ _ _ => False) (fun b => b = w.heap.size + 1)
    (fun b hb => ⟨by omega, fun h => h.elim (fun h => by have := HFL.out b h; omega) (fun h => by omega)⟩)
    (fun h k => h.turn hl1 k) (fun h k => h) (fun W hW hz => CollK.start HC1.out hW hz) ?round ?done ?stop
  case round =>
    rintro pre C x W0' W1 ⟨⟨s, rfl, hblk, hown⟩, hst, hsz'⟩ hlt hsz hnL hx01 hG
    obtain ⟨ks, hks⟩ : ∃ ks, pre.map LE.k = ks := ⟨_, rfl⟩
    have hkl : ks.length < 1000000 := by
      have h1 := (List.getElem?_eq_some_iff.1 hG.at_).1
      rw [← hks, List.length_map]; omega
    have hsn : (pre ++ [x]).map LE.k = ks ++ [x.k] := by rw [List.map_append, hks]; rfl
    rw [hks] at hblk hown
    have HBLK := Lib.hid hblk
    have HOWN := Lib.hid hown
    have HST := Lib.hid hst
    have HX01 := Lib.hid hx01
    have HSN := Lib.hid hsn
    clear hblk hown hst hx01 hG hnL hlt hks hsn
    gi_wp2_with fail
    refine ⟨Ext.refl _, fun W3 k3 => ?_⟩
    have h03 := (HX01.out.st _).trans k3
    have c3 : W3.cell? ⟨w.heap.size + 1, 0, none⟩ = some (.slice s.a ks.length s.c) := (h03.blk HBLK.out (by omega)).cell 0
    have f3 : W3.frozen? ⟨w.heap.size + 1, 0, none⟩ = false := (h03.blk HBLK.out (by omega)).frozen 0
    have l3 := (h03.blk HBLK.out (by omega)).lt
    have hx34 : Ext W3 (W3.alloc (.cells #[.string x.k] 9)) := (Ext.refl W3).alloc _ _
    have hrow0 : ∀ b, s.row = some b → w1.heap.size + 2 ≤ b ∧ b < W0'.heap.size := fun b hb => own_row HOWN.out hb
    have hown4 : (W3.alloc (.cells #[.string x.k] 9)).ownsRow (w1.heap.size + 2) 9 1 (.slice s.a ks.length s.c) ks.length (ks.map .string) :=
      own_agree' (own_agree' HOWN.out (h03.agree.mono fun i hi => ⟨hi.2, by have := hi.1; omega⟩)) (hx34.agree fun b hb => hb.2)
    have h63 : ks.length + 1 ≤ maxLen := by unfold maxLen; omega
    have hby : (ks.length + 1) * 16 ≤ 140737488355328 := by omega
    have hs03 := h03.size
    have hbase : w1.heap.size + 2 ≤ (W3.alloc (.cells #[.string x.k] 9)).heap.size := by rw [World.size_alloc]; omega
    have H03 := Lib.hid h03
    have HX34 := Lib.hid hx34
    have HOWN4 := Lib.hid hown4
    have HBN := Lib.hid (Blk.new W3 9 #[.string x.k])
    have hWB : ¬ w.heap.size + 1 = W3.heap.size := by omega
    have f3X := Lib.hid ((hx34.frozen (o := 0) l3).trans f3)
    clear k3 h03 hx34 hown4
    gi_wp2_with (gi_at_builtin; refine wpListIn_append_x _ rfl (.tmp 12) (.tmp 14) 102 rfl (w1.heap.size + 2) 9 i0 _ 1 16 Try.underlying102 hi hz0 hz1 hz2 rfl (by decide) s ks.length (ks.map .string) rfl HOWN4.out (fun b => b = W3.heap.size) ⟨some ⟨W3.heap.size, 0, none⟩, 1⟩ 1 [.string x.k] rfl (Rd.block HBN.out (by decide) rfl) (by simp [Value.oneCell']) h63 hby hbase ?_; intro s3 w5 hown5 hwr5 hs5; have h5 := hwr5.cell0 (o := 0) HX34.out (fun e => by have := (hrow0 _ e).1; omega) l3; have c5 : w5.cell? ⟨w.heap.size + 1, 0, none⟩ = some (.slice s.a ks.length s.c) := h5.1.trans c3; have l5 := h5.2; have f5 : w5.frozen? ⟨w.heap.size + 1, 0, none⟩ = false := (hwr5.fz _ _).trans (f3X.out); have HO5 := Lib.hid hown5; have HW5 := Lib.hid hwr5; have HS5 := Lib.hid hs5; clear hown5 hwr5 hs5 h5)
    obtain ⟨e1, e2, e3, e4⟩ := collK_end hl1 HBLK.out HOWN.out HST.out hsz' H03.out HX34.out HO5.out HW5.out HS5.out
    exact ⟨_, by show CollK w1 (w.heap.size + 1) ((pre ++ [x]).map LE.k) _ _; rw [HSN.out]; exact e1, e2, e3, e4⟩
  case stop =>
    rintro D c pre W hD hSp hX hDk
    exact hX.elim
  case done =>
    rintro D xs C W hD hS ⟨⟨s, rfl, hblk, hown⟩, hst, hsz'⟩ hDk
    have hkk : xs.map LE.k = (prefixE k (entsT T)).map Prod.fst := by
      have h0 : (xs.map LE.ent).map Prod.fst = xs.map LE.k := by rw [List.map_map]; rfl
      rw [← h0, hS]
    rw [hkk] at hblk hown
    have c0 : W.cell? ⟨w.heap.size + 1, 0, none⟩ = some (.slice s.a ((prefixE k (entsT T)).map Prod.fst).length s.c) := hblk.cell 0
    have hDl := (Array.getElem?_eq_some_iff.1 hDk).1
    have hk' : St (fun b => b = D) W (W.putObj D (.deferred none)) := St.put hDk rfl rfl
    have hbelow : Below w.heap.size w (W.putObj D (.deferred none)) := by
      have h1 : Below w.heap.size w1 (W.putObj D (.deferred none)) := by
        have h2 : St (fun b => b = w.heap.size + 1 ∨ b = D) w1 (W.putObj D (.deferred none)) := (hst.mono fun i _ hi => .inl hi).trans (hk'.mono fun i _ hi => .inr hi)
        exact ⟨h2.os, h2.tape, h2.output, h2.size, fun b hb => h2.block b (by omega) (by omega)⟩
      exact HB1'.out.trans h1
    have hrd := (Rd.of_own (own_agree' hown (hk'.agree.mono fun i hi => ⟨hi.2, by have := hi.1; omega⟩))).mono (G := Lt (W.putObj D (.deferred none)).heap.size) fun i hi => hi.2
    have HRD := Lib.hid hrd
    have HBE := Lib.hid hbelow
    have HDK := Lib.hid hDk
    clear hblk hown hst hk' hbelow hrd hDk hkk hS
    gi_wp2_with fail
    refine ⟨by simp, .inl ⟨_, _, rfl, run_takeDeferred HDK.out, ?_⟩⟩
    refine ⟨.slice s.a ((prefixE k (entsT T)).map Prod.fst).length s.c, ?_, ?_⟩
    · simp [results, Try.f57, go_sem]
    · exact ⟨s, rfl, HBE.out, HRD.out⟩
end Go.Proofs.Ytpapoalgocmlaaa
namespace Go.Proofs.Ytpapoalgocmlaaa
open Go.RowKit
set_option linter.unusedVariables false
set_option linter.unusedSimpArgs false

/-- A slice of texts. -/
abbrev RS8 (w : World) (s : Sl) (ks : List ByteArray) : Prop := Rd w (Lt w.heap.size) 1 s ks.length (ks.map .string)
theorem RS8.at {w : World} {s : Sl} {ks : List ByteArray} (h : RS8 w s ks) {i : Nat} {k : ByteArray} (hk : ks[i]? = some k) : ∃ b o, s.a = some ⟨b, o, none⟩ ∧ b < w.heap.size ∧ ks.length ≤ s.c ∧ s.c ≤ maxLen ∧ w.cell? ⟨b, o + i, none⟩ = some (.string k) := by
  obtain ⟨b, o, h1, h2, h3⟩ := h
  have hi : i < ks.length := (List.getElem?_eq_some_iff.1 hk).1
  obtain ⟨e1, e2, e3⟩ := h1.eq (by omega)
  exact ⟨b, o, e1, h1.fits (by omega), e2, e3, h3 i _ (by rw [List.getElem?_map, hk]; rfl)⟩
theorem RS8.ext {w w' : World} {s : Sl} {ks : List ByteArray} (h : RS8 w s ks) (k : Ext w w') : RS8 w' s ks := (h.agree (k.agree fun _ h => h)).mono fun _ hi => Nat.lt_of_lt_of_le hi k.size
set_option maxRecDepth 100000 in
set_option maxHeartbeats 1000000 in
theorem same8_any {w : World} {s s' : Sl} {ks ls : List ByteArray} (h : RS8 w s ks) (h' : RS8 w s' ls) (hl : ks.length ≤ 1000000) (hl' : ls.length ≤ 1000000) : Calls Try.prog 104 #[.slice s.a ks.length s.c, .slice s'.a ls.length s'.c] w fun e w' => e = .returned (.bool (decide (ks = ls))) ∧ Ext w w' := by
  by_cases hlen : ks.length = ls.length
  · have hne : (((ks.length : Int)) != ((ls.length : Int))) = false := by rw [hlen]; simp
    have H := Lib.hid h
    have H' := Lib.hid h'
    have HLEN := Lib.hid hlen
    rw [← hlen]
    clear h h' hlen hne
    go_enter Try.func104, Try.ntmps104
    go_wp2_with fail
    go_loopw [5] (fun q wr => ∃ j : Nat, q = .int .i64 j ∧ j ≤ ks.length ∧ Hid (ks.take j = ls.take j) ∧ Ext w wr) (fun q _ => ks.length - (intOf q).toNat)
    case atStart => exact ⟨0, rfl, Nat.zero_le _, Lib.hid rfl, Ext.refl w⟩
    case round =>
      obtain ⟨j, rfl, hjl, HP, hx⟩ := hrel
      by_cases h1 : j < ks.length
      · have g1 : (j : Int) < (ks.length : Int) := by omega
        obtain ⟨x, hxx⟩ : ∃ x, ks[j]? = some x := ⟨_, List.getElem?_eq_getElem h1⟩
        obtain ⟨y, hyy⟩ : ∃ y, ls[j]? = some y := ⟨_, List.getElem?_eq_getElem (by rw [← HLEN.out]; exact h1)⟩
        obtain ⟨g, o, hg, lg, hc, hcm, c0⟩ := (RS8.ext H.out hx).at hxx
        obtain ⟨g', o', hg', lg', hc', hcm', c0'⟩ := (RS8.ext H'.out hx).at hyy
        rw [← HLEN.out] at hc'
        obtain ⟨sa, sc⟩ := s
        obtain ⟨sa', sc'⟩ := s'
        dsimp only at hg hg' hc hc' hcm hcm'
        subst hg hg'
        have HX := Lib.hid hx
        have HXX := Lib.hid hxx
        have HYY := Lib.hid hyy
        clear hx hxx hyy
        by_cases hxy : x = y
        · subst hxy
          have hb : (x.toList != x.toList) = false := by simp
          have hb2 : (!(x.toList == x.toList)) = false := by simp
          go_wp2_with fail
          go_quiet (fail)
          go_wp2_with fail
          go_roundw
          case rel => exact ⟨j + 1, by go_num, h1, Lib.hid (by rw [List.take_add_one, List.take_add_one, HP.out, HXX.out, HYY.out]), HX.out.drewN _⟩
          case measure => simp [intOf]; omega
        · have hb : (x.toList != y.toList) = true := bne_iff_ne.2 fun e => hxy (toList_inj e)
          have hb1 : (x.toList == y.toList) = false := beq_eq_false_iff_ne.2 fun e => hxy (toList_inj e)
          have hne : ks ≠ ls := fun e => by
            rw [e, HYY.out] at HXX
            have := HXX.out
            simp at this; exact hxy this.symm
          go_wp2_with fail
          go_quiet (fail)
          go_wp2_with fail
          go_ret
          exact ⟨by rw [decide_eq_false hne]; rfl, HX.out.drewN _⟩
      · obtain rfl : j = ks.length := by omega
        have heq : ks = ls := by
          have := HP.out
          rw [List.take_length, HLEN.out, List.take_length] at this
          exact this
        have HX := Lib.hid hx
        clear hx
        go_wp2_with fail
        go_ret
        exact ⟨by rw [decide_eq_true heq]; rfl, HX.out⟩
  · have hne : (((ks.length : Int)) != ((ls.length : Int))) = true := bne_iff_ne.2 (by omega)
    have hnn : ks ≠ ls := fun e => hlen (by rw [e])
    clear h h' hlen
    go_enter Try.func104, Try.ntmps104
    go_wp2_with fail
    go_ret
    exact ⟨by rw [decide_eq_false hnn]; rfl, Ext.refl w⟩
/-- The five keys. -/
def name5 (i : Nat) : ByteArray := [⟨#[98, 47, 50]⟩, ⟨#[97]⟩, ⟨#[99]⟩, ⟨#[98]⟩, ⟨#[98, 47, 49]⟩].getD i ⟨#[]⟩
def fiveL (n : Nat) : List LE := (List.range n).map fun i => ⟨name5 i, .mk 3 false i ByteArray.empty [] [] [], Sl.none, Sl.none⟩
theorem fiveL_succ (n : Nat) : fiveL (n + 1) = fiveL n ++ [⟨name5 n, .mk 3 false n ByteArray.empty [] [] [], Sl.none, Sl.none⟩] := by simp [fiveL, List.range_succ]
theorem name5_small : ∀ i, i < 5 → (name5 i).size ≤ maxLen
  | 0, _ | 1, _ | 2, _ | 3, _ | 4, _ => by decide
  | _ + 5, h => by omega
theorem names_at : ∀ j, j < 5 → (#[.string ⟨#[98, 47, 50]⟩, .string ⟨#[97]⟩, .string ⟨#[99]⟩, .string ⟨#[98]⟩, .string ⟨#[98, 47, 49]⟩] : Array Value)[j]? = some (.string (name5 j))
  | 0, _ | 1, _ | 2, _ | 3, _ | 4, _ => rfl
  | _ + 5, h => by omega
set_option maxRecDepth 100000 in
set_option maxHeartbeats 1000000 in
theorem five_any (w : World) : Calls Try.prog 103 #[] w fun e w' => ∃ s, e = .returned (.slice s.a 5 s.c) ∧ ES w' (Lt w'.heap.size) s (fiveL 5) ∧ Ext w w' := by
  obtain ⟨i0, hi, hz0, hz1, hz2⟩ := info_parts Try.infoEntry
  have hb0 := Blk.new w 9 #[.string ⟨#[98, 47, 50]⟩, .string ⟨#[97]⟩, .string ⟨#[99]⟩, .string ⟨#[98]⟩, .string ⟨#[98, 47, 49]⟩]
  have hx0 : Ext w (w.alloc (.cells #[.string ⟨#[98, 47, 50]⟩, .string ⟨#[97]⟩, .string ⟨#[99]⟩, .string ⟨#[98]⟩, .string ⟨#[98, 47, 49]⟩] 9)) := (Ext.refl w).alloc _ _
  have HB0 := Lib.hid hb0
  have HX0 := Lib.hid hx0
  clear hb0 hx0
  go_enter Try.func103, Try.ntmps103
  go_wp2_with fail
  go_loopw [1, 3] (fun v i wr => ∃ (j : Nat) (s : Sl), j ≤ 5 ∧ i = .int .i64 j ∧ v = .slice s.a j s.c ∧ Ext w wr ∧ OE wr (w.heap.size + 1) s (fiveL j) ∧ Blk wr w.heap.size 9 #[.string ⟨#[98, 47, 50]⟩, .string ⟨#[97]⟩, .string ⟨#[99]⟩, .string ⟨#[98]⟩, .string ⟨#[98, 47, 49]⟩]) (fun _ i _ => 5 - (intOf i).toNat)
  case atStart => exact ⟨0, Sl.none, Nat.zero_le _, rfl, rfl, HX0.out, OE.nil _ _, HB0.out⟩
  case round =>
    obtain ⟨j, s, hj, rfl, rfl, hx, ho, hb⟩ := hrel
    have HX := Lib.hid hx
    have HO := Lib.hid ho
    have HB := Lib.hid hb
    by_cases hlt : j < 5
    · have hjn : (j : Int) < 5 := by omega
      have c0 : wr.cell? ⟨w.heap.size, j, none⟩ = some (.string (name5 j)) := by rw [hb.cell]; exact names_at j hlt
      have hwl := hb.lt
      have h63 : j + 1 ≤ maxLen := by unfold maxLen; omega
      have hby : (j + 1) * 104 ≤ 140737488355328 := by omega
      have hll : (fiveL j).length = j := by simp [fiveL]
      have hx1 : Ext wr (wr.alloc (.cells #[.string (name5 j), .int .i64 3, .bool false, .int .i64 (j : Int), .string ByteArray.empty, .slice none 0 0, .slice none 0 0] 56)) := (Ext.refl wr).alloc _ _
      have hown : (wr.alloc (.cells #[.string (name5 j), .int .i64 3, .bool false, .int .i64 (j : Int), .string ByteArray.empty, .slice none 0 0, .slice none 0 0] 56)).ownsRow (w.heap.size + 1) 56 7 (.slice s.a j s.c) j (flatE (fiveL j)) := by have := (ho.ext hx1).own; rwa [hll] at this
      have HN := Lib.hid (Blk.new wr 56 #[.string (name5 j), .int .i64 3, .bool false, .int .i64 (j : Int), .string ByteArray.empty, .slice none 0 0, .slice none 0 0])
      have HOWN := Lib.hid hown
      have HX1 := Lib.hid hx1
      have HLL := Lib.hid hll
      have hbase : w.heap.size + 1 ≤ (wr.alloc (.cells #[.string (name5 j), .int .i64 3, .bool false, .int .i64 (j : Int), .string ByteArray.empty, .slice none 0 0, .slice none 0 0] 56)).heap.size := by rw [World.size_alloc]; omega
      clear hx ho hb hown hx1 hll
      go_wp2_with (at_builtin; refine wpList_append_x _ rfl (.tmp 9) (.tmp 17) 53 rfl (w.heap.size + 1) 56 i0 _ 7 104 Try.underlying53 hi hz0 hz1 hz2 rfl (by decide) s j (flatE (fiveL j)) rfl HOWN.out (fun b => b = wr.heap.size) ⟨some ⟨wr.heap.size, 0, none⟩, 1⟩ 1 (LE.cells ⟨name5 j, .mk 3 false j ByteArray.empty [] [] [], Sl.none, Sl.none⟩) rfl (Rd.block HN.out (by decide) rfl) (LE.one _) h63 hby hbase ?_; intro s3 w3 hown3 hwr3 hs3)
      have hs2 : s3.row = s.row ∨ ∃ b, s3.row = some b ∧ (wr.alloc (.cells #[.string (name5 j), .int .i64 3, .bool false, .int .i64 (j : Int), .string ByteArray.empty, .slice none 0 0, .slice none 0 0] 56)).heap.size ≤ b := by
        rcases hs3 with h | ⟨h, -⟩
        · exact .inl (by simp [Sl.row, h])
        · refine .inr ⟨_, ?_, Nat.le_refl _⟩
          simp [Sl.row, h]
      have ho3 : OE w3 (w.heap.size + 1) s3 (fiveL j ++ [⟨name5 j, .mk 3 false j ByteArray.empty [] [] [], Sl.none, Sl.none⟩]) := OE.append (F := fun _ => False) (HO.out.ext HX1.out) (fun x hx => by
        rw [List.mem_singleton.1 hx]
        exact ⟨RV.flat _ _ _ _ _ _ (by decide) (by exact WalkArith.wf_i64 ⟨by omega, by omega⟩) (by decide), name5_small j hlt⟩) (fun b hb => hb.elim) (by rw [HLL.out]; exact hby) (by rw [HLL.out]; exact hown3) hwr3 hs2
      have hE := (HX.out.trans HX1.out).wr hwr3 (fun i hi => by have := (own_row HO.out.own hi).1; omega)
      have hB3 : Blk w3 w.heap.size 9 #[.string ⟨#[98, 47, 50]⟩, .string ⟨#[97]⟩, .string ⟨#[99]⟩, .string ⟨#[98]⟩, .string ⟨#[98, 47, 49]⟩] := (hwr3.st (H := fun b => s.row = some b) fun i hi => hi).blk (HB.out.ext HX1.out) (fun e => by have := (own_row HO.out.own e).1; omega)
      have HE := Lib.hid hE
      have HO3 := Lib.hid ho3
      have HB3 := Lib.hid hB3
      clear hs2 ho3 hE hs3 hwr3 hown3 hB3
      go_roundw
      case rel => exact ⟨j + 1, s3, hlt, by go_num, rfl, HE.out, by rw [fiveL_succ]; exact HO3.out, HB3.out⟩
      case measure => simp [intOf]; omega
    · have hjn : ¬ (j : Int) < 5 := by omega
      obtain rfl : j = 5 := by omega
      clear hx ho hb
      go_wp2_with fail
      go_ret
      exact ⟨s, rfl, HO.out.es.mono fun b hb => hb.2, HX.out⟩
end Go.Proofs.Ytpapoalgocmlaaa
namespace Go.Proofs.Ytpapoalgocmlaaa
open Go.RowKit
set_option linter.unusedVariables false
set_option linter.unusedSimpArgs false

/-- What a selection of entries hands back: a new row of the same entries. -/
def SelPost (es : List Ent) (w : World) (e : Ending) (w' : World) : Prop := ∃ (s : Sl) (ys : List LE), e = .returned (.slice s.a ys.length s.c) ∧ ys.map LE.ent = es ∧ ES w' (Lt w'.heap.size) s ys ∧ Ext w w'
/-- The row so far. -/
structure SelS (w : World) (es : List Ent) (s : Sl) (ys : List LE) (wr : World) : Prop where
  own : OE wr 0 s ys
  row : ∀ b, s.row = some b → w.heap.size ≤ b
  es_ : ys.map LE.ent = es
  ext : Ext w wr
theorem SelS.start (w : World) : SelS w [] Sl.none [] w := ⟨OE.nil _ _, fun b h => by simp [Sl.row] at h, rfl, Ext.refl w⟩
/-- One entry more. -/
theorem SelS.step {w wr W w3 : World} {es : List Ent} {s s3 : Sl} {ys : List LE} {x : LE} (h : SelS w es s ys wr) (hx : Ext wr W) (hv : RV wr (Lt w.heap.size) x.v x.sl x.so) (hk : x.k.size ≤ maxLen) (hf : (ys.length + 1) * 104 ≤ 140737488355328)
    (hown : w3.ownsRow 0 56 7 (.slice s3.a (ys.length + 1) s3.c) (ys.length + 1) (flatE ys ++ x.cells)) (hwr : Wr W w3 s.row) (hs3 : s3.a = s.a ∨ s3.a = some ⟨W.heap.size, 0, none⟩ ∧ Wr W w3 none) : SelS w (es ++ [x.ent]) s3 (ys ++ [x]) w3 := by
  have hs2 : s3.row = s.row ∨ ∃ b, s3.row = some b ∧ W.heap.size ≤ b := by
    rcases hs3 with h | ⟨h, -⟩
    · exact .inl (by simp [Sl.row, h])
    · exact .inr ⟨W.heap.size, by simp [Sl.row, h], Nat.le_refl _⟩
  have hsz := h.ext.size
  have hsz2 := hx.size
  refine ⟨OE.append (F := Lt w.heap.size) (h.own.ext hx) (fun y hy => by rw [List.mem_singleton.1 hy]; exact ⟨hv.agree (hx.agree fun b hb => Nat.lt_of_lt_of_le hb hsz), hk⟩) (fun b hb => ⟨Nat.zero_le _, Nat.lt_of_lt_of_le hb (Nat.le_trans hsz hsz2), fun e => by have := h.row b e; have hb : b < w.heap.size := hb; omega⟩) hf (by rw [show flatE [x] = LE.cells x from by simp [flatE]]; exact hown) hwr hs2, fun b hb => ?_, by rw [List.map_append, h.es_]; rfl, (h.ext.trans hx).wr hwr h.row⟩
  rcases hs2 with h' | ⟨b', h', hb'⟩
  · exact h.row b (h' ▸ hb)
  · rw [h'] at hb; cases hb; omega
theorem filter_snoc {p : Ent → Bool} {es : List Ent} {j : Nat} {x : Ent} (h : es[j]? = some x) : (es.take (j + 1)).filter p = (es.take j).filter p ++ (if p x then [x] else []) := by
  rw [List.take_add_one, h, List.filter_append]
  congr 1
  cases hp : p x <;> simp [hp]
theorem sel_end {w wr : World} {es : List Ent} {s : Sl} {ys : List LE} (h : SelS w es s ys wr) : SelPost es w (.returned (.slice s.a ys.length s.c)) wr := ⟨s, ys, rfl, h.es_, h.own.es.mono fun b hb => hb.2, h.ext⟩
set_option maxRecDepth 100000 in
set_option maxHeartbeats 4000000 in
theorem range8_any {w : World} {s0 : Sl} {xs : List LE} (h0 : ES w (Lt w.heap.size) s0 xs) (hl : xs.length ≤ 1000000) (lo hi' : ByteArray) (op : Bool) : Calls Try.prog 52 #[.slice s0.a xs.length s0.c, .string lo, .string hi', .bool op] w (SelPost ((xs.map LE.ent).filter (inI lo hi' op)) w) := by
  obtain ⟨i0, hi, hz0, hz1, hz2⟩ := info_parts Try.infoEntry
  have H0 := Lib.hid h0
  clear h0
  go_enter Try.func52, Try.ntmps52
  go_wp2_with fail
  go_loopw [9, 10] (fun v i wr => ∃ (j : Nat) (s : Sl) (ys : List LE), j ≤ xs.length ∧ i = .int .i64 j ∧ v = .slice s.a ys.length s.c ∧ SelS w (((xs.map LE.ent).take j).filter (inI lo hi' op)) s ys wr) (fun _ i _ => xs.length - (intOf i).toNat)
  case atStart => exact ⟨0, Sl.none, [], Nat.zero_le _, rfl, rfl, SelS.start w⟩
  case round =>
    obtain ⟨j, s, ys, hj, rfl, rfl, hS⟩ := hrel
    have HS := Lib.hid hS
    have hyl : ys.length ≤ xs.length := by
      have h1 : ys.length = (((xs.map LE.ent).take j).filter (inI lo hi' op)).length := by rw [← hS.es_, List.length_map]
      have h2 := List.length_filter_le (inI lo hi' op) ((xs.map LE.ent).take j)
      rw [List.length_take, List.length_map] at h2
      omega
    by_cases hlt : j < xs.length
    · have hjl : (j : Int) < (xs.length : Int) := by omega
      obtain ⟨x, hxj⟩ : ∃ x, xs[j]? = some x := ⟨_, List.getElem?_eq_getElem hlt⟩
      obtain ⟨b, o, ha, hbl, hlc, hcm, k0, hv, hrv, hks⟩ := (H0.out.ext hS.ext).at hxj
      have hrv0 := (H0.out.at hxj).choose_spec.choose_spec.2.2.2.2.2.2.1.agree (hS.ext.agree fun b hb => hb)
      obtain ⟨v0, v1, v2, v3, v4, v5⟩ := hv
      obtain ⟨sa, sc⟩ := s0
      dsimp only at ha hlc hcm
      subst ha
      have hxe : (xs.map LE.ent)[j]? = some x.ent := by rw [List.getElem?_map, hxj]; rfl
      have HXJ := Lib.hid hxe
      have HRV := Lib.hid hrv0
      have hbl : b < wr.heap.size := hbl
      clear hS hxj hrv hrv0 hxe
      cases hlo : klt x.k lo with
      | true =>
        have hb1 : Op.bytesLess x.k.toList lo.toList = true := hlo
        have HPX := Lib.hid (show inI lo hi' op x.ent = false by simp [inI, LE.ent, hlo])
        go_wp2_with fail
        go_roundw
        case rel => exact ⟨j + 1, s, ys, hlt, by go_num, rfl, by rw [filter_snoc (x := x.ent) HXJ.out, HPX.out]; simpa using HS.out⟩
        case measure => simp [intOf]; omega
      | false =>
        have hb1 : Op.bytesLess x.k.toList lo.toList = false := hlo
        cases op with
        | true =>
          have HPX := Lib.hid (show inI lo hi' true x.ent = true by simp [inI, LE.ent, hlo])
          have h63 : ys.length + 1 ≤ maxLen := by unfold maxLen; omega
          have hby : (ys.length + 1) * 104 ≤ 140737488355328 := by omega
          have hx1 : Ext wr (wr.alloc (.cells (LE.cells x).toArray 56)) := (Ext.refl wr).alloc _ _
          have HX1 := Lib.hid hx1
          have HOWN := Lib.hid (HS.out.own.ext hx1).own
          have HN := Lib.hid (Blk.new wr 56 (LE.cells x).toArray)
          have hrow := HS.out.row
          clear hx1
          go_wp2_with (at_builtin; refine wpList_append_x _ rfl (.tmp 36) (.tmp 41) 53 rfl 0 56 i0 _ 7 104 Try.underlying53 hi hz0 hz1 hz2 rfl (by decide) s ys.length (flatE ys) rfl HOWN.out (fun b => b = wr.heap.size) ⟨some ⟨wr.heap.size, 0, none⟩, 1⟩ 1 (LE.cells x) rfl (Rd.block HN.out (by decide) rfl) (LE.one _) h63 hby (Nat.zero_le _) ?_; intro s3 w3 hown3 hwr3 hs3)
          have HS3 := Lib.hid (HS.out.step HX1.out HRV.out hks hby hown3 hwr3 hs3)
          clear hown3 hwr3 hs3 hrow
          go_roundw
          case rel => exact ⟨j + 1, s3, ys ++ [x], hlt, by go_num, by simp, by rw [filter_snoc (x := x.ent) HXJ.out, HPX.out]; exact HS3.out⟩
          case measure => simp [intOf]; omega
        | false =>
          cases hhi : klt x.k hi' with
          | true =>
            have hb2 : Op.bytesLess x.k.toList hi'.toList = true := hhi
            have HPX := Lib.hid (show inI lo hi' false x.ent = true by simp [inI, LE.ent, hlo, hhi])
            have h63 : ys.length + 1 ≤ maxLen := by unfold maxLen; omega
            have hby : (ys.length + 1) * 104 ≤ 140737488355328 := by omega
            have hx1 : Ext wr (wr.alloc (.cells (LE.cells x).toArray 56)) := (Ext.refl wr).alloc _ _
            have HX1 := Lib.hid hx1
            have HOWN := Lib.hid (HS.out.own.ext hx1).own
            have HN := Lib.hid (Blk.new wr 56 (LE.cells x).toArray)
            have hrow := HS.out.row
            clear hx1
            go_wp2_with (at_builtin; refine wpList_append_x _ rfl (.tmp 36) (.tmp 41) 53 rfl 0 56 i0 _ 7 104 Try.underlying53 hi hz0 hz1 hz2 rfl (by decide) s ys.length (flatE ys) rfl HOWN.out (fun b => b = wr.heap.size) ⟨some ⟨wr.heap.size, 0, none⟩, 1⟩ 1 (LE.cells x) rfl (Rd.block HN.out (by decide) rfl) (LE.one _) h63 hby (Nat.zero_le _) ?_; intro s3 w3 hown3 hwr3 hs3)
            have HS3 := Lib.hid (HS.out.step HX1.out HRV.out hks hby hown3 hwr3 hs3)
            clear hown3 hwr3 hs3 hrow
            go_roundw
            case rel => exact ⟨j + 1, s3, ys ++ [x], hlt, by go_num, by simp, by rw [filter_snoc (x := x.ent) HXJ.out, HPX.out]; exact HS3.out⟩
            case measure => simp [intOf]; omega
          | false =>
            have hb2 : Op.bytesLess x.k.toList hi'.toList = false := hhi
            have HPX := Lib.hid (show inI lo hi' false x.ent = false by simp [inI, LE.ent, hlo, hhi])
            go_wp2_with fail
            go_roundw
            case rel => exact ⟨j + 1, s, ys, hlt, by go_num, rfl, by rw [filter_snoc (x := x.ent) HXJ.out, HPX.out]; simpa using HS.out⟩
            case measure => simp [intOf]; omega
    · obtain rfl : j = xs.length := by omega
      have HE := Lib.hid (sel_end hS)
      rw [List.take_of_length_le (by rw [List.length_map]; exact Nat.le_refl _)] at HE
      clear hS
      go_wp2_with fail
      go_ret
      exact HE.out
/-- Does a text begin so? -/
theorem begins8_any (w : World) (k p : ByteArray) (hk : k.size ≤ maxLen) (hp : p.size ≤ maxLen) : Calls Try.prog 108 #[.string k, .string p] w fun e w' => e = .returned (.bool (p.toList.isPrefixOf k.toList)) ∧ w = w' := by
  unfold maxLen at hk hp
  have lk := size_toList k
  have lp := size_toList p
  by_cases h : p.size ≤ k.size
  · have g1 : (p.size : Int) ≤ (k.size : Int) := by omega
    have g2 : min p.size k.size = p.size := by omega
    have hex : (k.extract 0 p.size).toList = k.toList.take p.size := extract_toList k p.size
    have he : ((k.extract 0 p.size).toList == p.toList) = p.toList.isPrefixOf k.toList := by
      rw [hex]
      cases hpre : p.toList.isPrefixOf k.toList with
      | true =>
        have := List.prefix_iff_eq_take.1 (List.isPrefixOf_iff_prefix.1 hpre)
        rw [← lp, ← this]; simp
      | false =>
        rw [beq_eq_false_iff_ne]
        intro e
        have : p.toList <+: k.toList := by rw [← e]; exact List.take_prefix _ _
        rw [List.isPrefixOf_iff_prefix.2 this] at hpre; cases hpre
    have HE := Lib.hid he
    clear he hex lk lp
    go_enter Try.func108, Try.ntmps108
    go_wp2_with fail
    go_ret
    exact ⟨by rw [← HE.out]; rfl, rfl⟩
  · have g1 : ¬ (p.size : Int) ≤ (k.size : Int) := by omega
    have g1' : decide ((p.size : Int) ≤ (k.size : Int)) = false := decide_eq_false g1
    have hn : p.toList.isPrefixOf k.toList = false := by
      cases hpre : p.toList.isPrefixOf k.toList with
      | true => have := (List.isPrefixOf_iff_prefix.1 hpre).length_le; omega
      | false => rfl
    rw [hn]
    clear lk lp hn
    go_enter Try.func108, Try.ntmps108
    go_wp2_with fail
    go_ret
    exact ⟨rfl, rfl⟩
set_option maxRecDepth 100000 in
set_option maxHeartbeats 4000000 in
theorem prefix8_any {w : World} {s0 : Sl} {xs : List LE} (h0 : ES w (Lt w.heap.size) s0 xs) (hl : xs.length ≤ 1000000) (p : ByteArray) (hp : p.size ≤ maxLen) : Calls Try.prog 55 #[.slice s0.a xs.length s0.c, .string p] w (SelPost ((xs.map LE.ent).filter (fun e => p.toList.isPrefixOf e.1.toList)) w) := by
  obtain ⟨i0, hi, hz0, hz1, hz2⟩ := info_parts Try.infoEntry
  have H0 := Lib.hid h0
  clear h0
  go_enter Try.func55, Try.ntmps55
  go_wp2_with fail
  go_loopw [5, 6] (fun v i wr => ∃ (j : Nat) (s : Sl) (ys : List LE), j ≤ xs.length ∧ i = .int .i64 j ∧ v = .slice s.a ys.length s.c ∧ SelS w (((xs.map LE.ent).take j).filter (fun e => p.toList.isPrefixOf e.1.toList)) s ys wr) (fun _ i _ => xs.length - (intOf i).toNat)
  case atStart => exact ⟨0, Sl.none, [], Nat.zero_le _, rfl, rfl, SelS.start w⟩
  case round =>
    obtain ⟨j, s, ys, hj, rfl, rfl, hS⟩ := hrel
    have HS := Lib.hid hS
    have hyl : ys.length ≤ xs.length := by
      have h1 : ys.length = (((xs.map LE.ent).take j).filter (fun e => p.toList.isPrefixOf e.1.toList)).length := by rw [← hS.es_, List.length_map]
      have h2 := List.length_filter_le (fun e => p.toList.isPrefixOf e.1.toList) ((xs.map LE.ent).take j)
      rw [List.length_take, List.length_map] at h2
      omega
    by_cases hlt : j < xs.length
    · have hjl : (j : Int) < (xs.length : Int) := by omega
      obtain ⟨x, hxj⟩ : ∃ x, xs[j]? = some x := ⟨_, List.getElem?_eq_getElem hlt⟩
      obtain ⟨b, o, ha, hbl, hlc, hcm, k0, hv, hrv, hks⟩ := (H0.out.ext hS.ext).at hxj
      have hrv0 := (H0.out.at hxj).choose_spec.choose_spec.2.2.2.2.2.2.1.agree (hS.ext.agree fun b hb => hb)
      obtain ⟨v0, v1, v2, v3, v4, v5⟩ := hv
      obtain ⟨sa, sc⟩ := s0
      dsimp only at ha hlc hcm
      subst ha
      have hxe : (xs.map LE.ent)[j]? = some x.ent := by rw [List.getElem?_map, hxj]; rfl
      have HXJ := Lib.hid hxe
      have HRV := Lib.hid hrv0
      have hbl : b < wr.heap.size := hbl
      clear hS hxj hrv hrv0 hxe
      have HB8 := Lib.hid (begins8_any wr x.k p hks hp)
      cases hpb : p.toList.isPrefixOf x.k.toList with
      | true =>
        rw [hpb] at HB8
        have HPX := Lib.hid (show p.toList.isPrefixOf x.ent.1.toList = true from hpb)
        go_wp2_with fail
        refine HB8.out.mono ?_
        rintro e w2 ⟨rfl, rfl⟩
        have h63 : ys.length + 1 ≤ maxLen := by unfold maxLen; omega
        have hby : (ys.length + 1) * 104 ≤ 140737488355328 := by omega
        have hx1 : Ext wr (wr.alloc (.cells (LE.cells x).toArray 56)) := (Ext.refl wr).alloc _ _
        have HX1 := Lib.hid hx1
        have HOWN := Lib.hid (HS.out.own.ext hx1).own
        have HN := Lib.hid (Blk.new wr 56 (LE.cells x).toArray)
        have hrow := HS.out.row
        clear hx1
        go_wp2_with (at_builtin; refine wpList_append_x _ rfl (.tmp 20) (.tmp 25) 53 rfl 0 56 i0 _ 7 104 Try.underlying53 hi hz0 hz1 hz2 rfl (by decide) s ys.length (flatE ys) rfl HOWN.out (fun b => b = wr.heap.size) ⟨some ⟨wr.heap.size, 0, none⟩, 1⟩ 1 (LE.cells x) rfl (Rd.block HN.out (by decide) rfl) (LE.one _) h63 hby (Nat.zero_le _) ?_; intro s3 w3 hown3 hwr3 hs3)
        have HS3 := Lib.hid (HS.out.step HX1.out HRV.out hks hby hown3 hwr3 hs3)
        clear hown3 hwr3 hs3 hrow
        go_roundw
        case rel => exact ⟨j + 1, s3, ys ++ [x], hlt, by go_num, by simp, by rw [filter_snoc (x := x.ent) HXJ.out, HPX.out]; exact HS3.out⟩
        case measure => simp [intOf]; omega
      | false =>
        rw [hpb] at HB8
        have HPX := Lib.hid (show p.toList.isPrefixOf x.ent.1.toList = false from hpb)
        go_wp2_with fail
        refine HB8.out.mono ?_
        rintro e w2 ⟨rfl, rfl⟩
        go_wp2_with fail
        go_roundw
        case rel => exact ⟨j + 1, s, ys, hlt, by go_num, rfl, by rw [filter_snoc (x := x.ent) HXJ.out, HPX.out]; simpa using HS.out⟩
        case measure => simp [intOf]; omega
    · obtain rfl : j = xs.length := by omega
      have HE := Lib.hid (sel_end hS)
      rw [List.take_of_length_le (by rw [List.length_map]; exact Nat.le_refl _)] at HE
      clear hS
      go_wp2_with fail
      go_ret
      exact HE.out
set_option maxRecDepth 100000 in
set_option maxHeartbeats 1000000 in
theorem rank8_any {w : World} {s0 : Sl} {xs : List LE} (h0 : ES w (Lt w.heap.size) s0 xs) (hl : xs.length ≤ 1000000) (k : ByteArray) : Calls Try.prog 58 #[.slice s0.a xs.length s0.c, .string k] w fun e w' => e = .returned (.int .i64 (((xs.map LE.ent).filter fun e => klt e.1 k).length : Nat)) ∧ Ext w w' := by
  have H0 := Lib.hid h0
  clear h0
  go_enter Try.func58, Try.ntmps58
  go_wp2_with fail
  go_loopw [5, 6] (fun v i wr => wr = w ∧ ∃ (j n : Nat), j ≤ xs.length ∧ i = .int .i64 j ∧ v = .int .i64 n ∧ n ≤ j ∧ Hid (n = (((xs.map LE.ent).take j).filter fun e => klt e.1 k).length)) (fun _ i _ => xs.length - (intOf i).toNat)
  case atStart => exact ⟨rfl, 0, 0, Nat.zero_le _, rfl, rfl, Nat.le_refl _, Lib.hid rfl⟩
  case round =>
    obtain ⟨rfl, j, n, hj, rfl, rfl, hnj, HP⟩ := hrel
    by_cases hlt : j < xs.length
    · have hjl : (j : Int) < (xs.length : Int) := by omega
      obtain ⟨x, hxj⟩ : ∃ x, xs[j]? = some x := ⟨_, List.getElem?_eq_getElem hlt⟩
      obtain ⟨b, o, ha, hbl, hlc, hcm, k0, -, -, -⟩ := H0.out.at hxj
      obtain ⟨sa, sc⟩ := s0
      dsimp only at ha hlc hcm
      subst ha
      have HXJ := Lib.hid (show (xs.map LE.ent)[j]? = some x.ent by rw [List.getElem?_map, hxj]; rfl)
      clear hxj
      cases hkl : klt x.k k with
      | true =>
        have hb1 : Op.bytesLess x.k.toList k.toList = true := hkl
        go_wp2_with fail
        go_roundw
        case rel => exact ⟨trivial, j + 1, n + 1, hlt, by go_num, by go_num, by omega, Lib.hid (by rw [filter_snoc (x := x.ent) HXJ.out, List.length_append, ← HP.out, if_pos (show klt x.ent.1 k = true from hkl)]; rfl)⟩
        case measure => simp [intOf]; omega
      | false =>
        have hb1 : Op.bytesLess x.k.toList k.toList = false := hkl
        go_wp2_with fail
        go_roundw
        case rel => exact ⟨trivial, j + 1, n, hlt, by go_num, rfl, by omega, Lib.hid (by rw [filter_snoc (x := x.ent) HXJ.out, List.length_append, ← HP.out, if_neg (show ¬ klt x.ent.1 k = true from by rw [show klt x.ent.1 k = false from hkl]; simp)]; rfl)⟩
        case measure => simp [intOf]; omega
    · obtain rfl : j = xs.length := by omega
      have HP' := HP.out
      rw [List.take_of_length_le (by rw [List.length_map]; exact Nat.le_refl _)] at HP'
      have HQ := Lib.hid HP'
      clear HP'
      go_wp2_with fail
      go_ret
      exact ⟨by rw [← HQ.out]; rfl, Ext.refl _⟩
end Go.Proofs.Ytpapoalgocmlaaa
namespace Go.Proofs.Ytpapoalgocmlaaa
open Go.RowKit
set_option linter.unusedVariables false
set_option linter.unusedSimpArgs false

theorem putAll_sorted (l : List Ent) : ∀ {es : List Ent}, Sorted es → Sorted (putAll es l) := by
  induction l with
  | nil => intro es h; exact h
  | cons a l ih => intro es h; exact ih (insE_sorted h a.1 a.2)
theorem putAll_take {l : List Ent} {j : Nat} {e : Ent} (h : l[j]? = some e) : putAll [] (l.take (j + 1)) = insE (putAll [] (l.take j)) e.1 e.2 := by
  rw [List.take_add_one, h]; exact putAll_snoc [] (l.take j) e
/-- A tree, and the same entries in a row. -/
structure Made (w : World) (es : List Ent) (T : RT) (s : Sl) (ms : List LE) : Prop where
  ok : OkR T
  ents : entsT T = es
  few : es.length ≤ 400
  tree : IsT w (Lt w.heap.size) T
  list : ES w (Lt w.heap.size) s ms
  ms_ : ms.map LE.ent = es
theorem Made.ext {w w' : World} {es : List Ent} {T : RT} {s : Sl} {ms : List LE} (h : Made w es T s ms) (k : Ext w w') : Made w' es T s ms :=
  ⟨h.ok, h.ents, h.few, (h.tree.agree (k.agree fun _ h => h)).mono fun _ hi => Nat.lt_of_lt_of_le hi k.size, h.list.ext k, h.ms_⟩
theorem Made.at_ {w : World} {es : List Ent} {T : RT} {s : Sl} {ms : List LE} (h : Made w es T s ms) : TreeAt (Lt w.heap.size) T w := ⟨h.tree, fun _ h => h⟩
theorem Made.sorted {w : World} {es : List Ent} {T : RT} {s : Sl} {ms : List LE} (h : Made w es T s ms) : Sorted es := h.ents ▸ h.ok.sorted
theorem Made.len {w : World} {es : List Ent} {T : RT} {s : Sl} {ms : List LE} (h : Made w es T s ms) : ms.length = es.length := by rw [← h.ms_, List.length_map]
def MadePost (l : List Ent) (w : World) (e : Ending) (w' : World) : Prop :=
  ∃ T s ms, e = .returned (.tuple #[treeV T, .slice s.a ms.length s.c, .bool true]) ∧ Made w' (putAll [] l) T s ms ∧ Ext w w'
set_option maxRecDepth 100000 in
theorem made_not {w : World} {s : Sl} {n : Nat} (h : 400 < n) : Calls Try.prog 50 #[.slice s.a n s.c] w fun e w' => e = .returned (.tuple #[.agg #[.pointer none], .slice none 0 0, .bool false]) ∧ Ext w w' := by
  have g1 : (400 : Int) < (n : Int) := by omega
  have g1' : decide ((400 : Int) < (n : Int)) = true := decide_eq_true g1
  have hb0 := Blk.new w 30 #[.pointer none]
  have hx0 : Ext w (w.alloc (.cells #[.pointer none] 30)) := (Ext.refl w).alloc _ _
  have HX0 := Lib.hid hx0
  have HB0 := Lib.hid hb0
  clear hx0 hb0 h
  go_enter Try.func50, Try.ntmps50
  go_wp2_with fail
  refine bodyPost_ret (v := .tuple #[.agg #[.pointer none], .slice none 0 0, .bool false]) (by simp [results, Try.results50, go_sem, HB0.out.cell 0]) rfl ?_
  exact ⟨rfl, by first | exact HX0.out | exact HX0.out.setCell (p := ⟨w.heap.size, 0, none⟩) (Nat.le_refl _) _⟩
set_option maxRecDepth 100000 in
set_option maxHeartbeats 4000000 in
theorem made_any {w : World} {s : Sl} {xs : List LE} (h : ES w (Lt w.heap.size) s xs) (hl : xs.length ≤ 400) : Calls Try.prog 50 #[.slice s.a xs.length s.c] w (MadePost (xs.map LE.ent) w) := by
  have g1 : ¬ (400 : Int) < (xs.length : Int) := by omega
  have g1' : decide ((400 : Int) < (xs.length : Int)) = false := decide_eq_false g1
  have HE := Lib.hid h
  clear h
  go_enter Try.func50, Try.ntmps50
  go_wp2_with fail
  generalize hW0 : World.alloc (World.alloc _ _) _ = W0
  obtain ⟨hx0, hz0, hb0, hb1⟩ := two_blocks w _ _ _ _ W0 hW0
  have hM0 : MapAt (fun b => b = w.heap.size ∨ b = w.heap.size + 1) W0 (w.heap.size + 1) (putAll [] ((xs.map LE.ent).take 0)) := ⟨.inr rfl, Sl.none, [], hb1, ES.nil _ _, rfl⟩
  have HX0 := Lib.hid hx0
  have HB0 := Lib.hid hb0
  have HM0 := Lib.hid hM0
  clear hW0 hx0 hb0 hb1 hM0
  go_loopw [6] (fun i wr => ∃ j : Nat, j ≤ xs.length ∧ i = .int .i64 j ∧ MapAt (fun b => b = w.heap.size ∨ b = w.heap.size + 1) wr (w.heap.size + 1) (putAll [] ((xs.map LE.ent).take j)) ∧ Blk wr w.heap.size 30 #[.pointer none] ∧ Ext w wr ∧ w.heap.size + 2 ≤ wr.heap.size) (fun i _ => xs.length - (intOf i).toNat)
  case atStart => exact ⟨0, Nat.zero_le _, rfl, HM0.out, HB0.out, HX0.out, by omega⟩
  case round =>
    obtain ⟨j, hj, rfl, hM, hB, hX, hsz⟩ := hrel
    have HM := Lib.hid hM
    have HB := Lib.hid hB
    have HX := Lib.hid hX
    by_cases hlt : j < xs.length
    · have hjl : (j : Int) < (xs.length : Int) := by omega
      obtain ⟨x, hxj⟩ : ∃ x, xs[j]? = some x := ⟨_, List.getElem?_eq_getElem hlt⟩
      obtain ⟨b, o, ha, hbl, hlc, hcm, k0, hv, hrv, hks⟩ := HE.out.at hxj
      obtain ⟨v0, v1, v2, v3, v4, v5⟩ := hv.m
      obtain ⟨sa, sc⟩ := s
      dsimp only at ha hlc hcm
      subst ha
      have hbl : b < w.heap.size := hbl
      have hXe : (xs.map LE.ent)[j]? = some x.ent := by rw [List.getElem?_map, hxj]; rfl
      have HXE := Lib.hid hXe
      have hlen : (putAll [] ((xs.map LE.ent).take j)).length ≤ 1000000 := by
        have := putAll_len ((xs.map LE.ent).take j) []
        rw [List.length_take, List.length_map] at this
        simp only [List.length_nil] at this
        omega
      have hput := fun (W : World) (hW : Ext wr W) => put7_any (hM.ext hW) (fun b hb => by have := hW.size; omega) (putAll_sorted _ List.Pairwise.nil) hlen hks ((hrv.agree ((hX.trans hW).agree fun b hb => hb)).mono fun b hb => ⟨by have := hW.size; have hb : b < w.heap.size := hb; omega, fun e => by have hb : b < w.heap.size := hb; omega⟩)
      have HPUT := Lib.hid hput
      have HSS := Lib.hid (show ∀ W, St (fun b => b = w.heap.size + 1) wr W → W.cell? ⟨b, o + j * 7, none⟩ = some (.string x.k) ∧ W.cell? ⟨b, o + j * 7 + 1, none⟩ = some (.int .i64 x.v.kind) ∧ W.cell? ⟨b, o + j * 7 + 2, none⟩ = some (.bool x.v.b) ∧ W.cell? ⟨b, o + j * 7 + 3, none⟩ = some (.int .i64 x.v.i) ∧ W.cell? ⟨b, o + j * 7 + 4, none⟩ = some (.string x.v.t) ∧ W.cell? ⟨b, o + j * 7 + 5, none⟩ = some (.slice x.sl.a x.v.l.length x.sl.c) ∧ W.cell? ⟨b, o + j * 7 + 6, none⟩ = some (.slice x.so.a x.v.ok.length x.so.c) from fun W hW => by
        have e : ∀ i u, w.cell? ⟨b, i, none⟩ = some u → W.cell? ⟨b, i, none⟩ = some u := fun i u hu => (hW.cell (by have := hX.size; omega) (by omega)).trans ((hX.cell hbl).trans hu)
        exact ⟨e _ _ k0, e _ _ v0, e _ _ v1, e _ _ v2, e _ _ v3, e _ _ v4, e _ _ v5⟩)
      clear hM hB hX hxj hv hrv hput k0 v0 v1 v2 v3 v4 v5 hXe
      go_wp2_with fail
      refine wp_region_held_drew (S := (fun w' => St (fun b => b = w.heap.size + 1) wr w')) (by kernel_rfl) (((St.refl _ wr).drew)) (fun hHeld => ?_)
      refine held_on (i := 0) (d := (some 19)) (v := ?_) rfl rfl (by kernel_rfl) (by kernel_rfl) (by kernel_rfl) (fun _ _ _ h => h) (by rfl) hHeld ?_ ?_
      rotate_left
      focus (intro w hSw; have hSc := HSS.out w hSw; clear hSw; go_simp; first | done | with_reducible rfl)
      try simp only [Act.put, List.setIfInBounds_toArray, List.set_cons_zero, List.set_cons_succ]
      refine held_on (i := 1) (d := (some 20)) (v := ?_) rfl rfl (by kernel_rfl) (by kernel_rfl) (by kernel_rfl) (fun _ _ _ h => h) (by rfl) hHeld ?_ ?_
      rotate_left
      focus (intro w hSw; have hSc := HSS.out w hSw; clear hSw; go_simp; first | done | with_reducible rfl)
      try simp only [Act.put, List.setIfInBounds_toArray, List.set_cons_zero, List.set_cons_succ]
      refine held_on (i := 2) (d := (some 21)) (v := ?_) rfl rfl (by kernel_rfl) (by kernel_rfl) (by kernel_rfl) (fun _ _ _ h => h) (by rfl) hHeld ?_ ?_
      rotate_left
      focus (intro w hSw; have hSc := HSS.out w hSw; clear hSw; go_simp; first | done | with_reducible rfl)
      try simp only [Act.put, List.setIfInBounds_toArray, List.set_cons_zero, List.set_cons_succ]
      refine held_on (i := 3) (d := (some 22)) (v := ?_) rfl rfl (by kernel_rfl) (by kernel_rfl) (by kernel_rfl) (fun _ _ _ h => h) (by rfl) hHeld ?_ ?_
      rotate_left
      focus (intro w hSw; have hSc := HSS.out w hSw; clear hSw; go_simp; first | done | with_reducible rfl)
      try simp only [Act.put, List.setIfInBounds_toArray, List.set_cons_zero, List.set_cons_succ]
      refine held_on (i := 4) (d := (some 23)) (v := ?_) rfl rfl (by kernel_rfl) (by kernel_rfl) (by kernel_rfl) (fun _ _ _ h => h) (by rfl) hHeld ?_ ?_
      rotate_left
      focus (intro w hSw; have hSc := HSS.out w hSw; clear hSw; go_simp; first | done | with_reducible rfl)
      try simp only [Act.put, List.setIfInBounds_toArray, List.set_cons_zero, List.set_cons_succ]
      refine held_on (i := 5) (d := (some 24)) (v := ?_) rfl rfl (by kernel_rfl) (by kernel_rfl) (by kernel_rfl) (fun _ _ _ h => h) (by rfl) hHeld ?_ ?_
      rotate_left
      focus (intro w hSw; have hSc := HSS.out w hSw; clear hSw; go_simp; first | done | with_reducible rfl)
      try simp only [Act.put, List.setIfInBounds_toArray, List.set_cons_zero, List.set_cons_succ]
      refine held_on (i := 6) (d := (some 25)) (v := ?_) rfl rfl (by kernel_rfl) (by kernel_rfl) (by kernel_rfl) (fun _ _ _ h => h) (by rfl) hHeld ?_ ?_
      rotate_left
      focus (intro w hSw; have hSc := HSS.out w hSw; clear hSw; go_simp; first | done | with_reducible rfl)
      try simp only [Act.put, List.setIfInBounds_toArray, List.set_cons_zero, List.set_cons_succ]
      refine held_on (i := 7) (d := (some 26)) (v := ?_) rfl rfl (by kernel_rfl) (by kernel_rfl) (by kernel_rfl) (fun _ _ _ h => h) (by rfl) hHeld ?_ ?_
      rotate_left
      focus (intro w hSw; have hSc := HSS.out w hSw; clear hSw; go_simp; first | done | with_reducible rfl)
      try simp only [Act.put, List.setIfInBounds_toArray, List.set_cons_zero, List.set_cons_succ]
      refine held_on (i := 8) (d := (some 27)) (v := ?_) rfl rfl (by kernel_rfl) (by kernel_rfl) (by kernel_rfl) (fun _ _ _ h => h) (by rfl) hHeld ?_ ?_
      rotate_left
      focus (intro w hSw; have hSc := HSS.out w hSw; clear hSw; go_simp; first | done | with_reducible rfl)
      try simp only [Act.put, List.setIfInBounds_toArray, List.set_cons_zero, List.set_cons_succ]
      refine held_on (i := 9) (d := (some 28)) (v := ?_) rfl rfl (by kernel_rfl) (by kernel_rfl) (by kernel_rfl) (fun _ _ _ h => h) (by rfl) hHeld ?_ ?_
      rotate_left
      focus (intro w hSw; have hSc := HSS.out w hSw; clear hSw; go_simp; first | done | with_reducible rfl)
      try simp only [Act.put, List.setIfInBounds_toArray, List.set_cons_zero, List.set_cons_succ]
      refine held_on (i := 10) (d := (some 29)) (v := ?_) rfl rfl (by kernel_rfl) (by kernel_rfl) (by kernel_rfl) (fun _ _ _ h => h) (by rfl) hHeld ?_ ?_
      rotate_left
      focus (intro w hSw; have hSc := HSS.out w hSw; clear hSw; go_simp; first | done | with_reducible rfl)
      try simp only [Act.put, List.setIfInBounds_toArray, List.set_cons_zero, List.set_cons_succ]
      refine held_call (i := 11) (by kernel_rfl) rfl (by rfl) (fun K hK => ?_)
      go_simp
      (refine (HPUT.out _ ((Ext.refl wr).drew)).mono ?_; rintro e w2 ⟨⟨r, rfl⟩, hm2, hst2⟩)
      refine hK.out _ _ ((((Ext.refl wr).drew).st _).trans hst2) (fun hHeld => ?_)
      clear hK K
      try simp only [Act.put, List.setIfInBounds_toArray, List.set_cons_zero, List.set_cons_succ]
      refine wpAnyH_done (by kernel_rfl) ?_ _
      have HM2 := Lib.hid hm2
      have hst : St (fun b => b = w.heap.size + 1) wr w2 := hHeld
      have HST := Lib.hid hst
      clear hm2 hst2 hHeld hst
      go_wp2_with fail
      go_roundw
      case rel => exact ⟨j + 1, hlt, by go_num, by rw [putAll_take HXE.out]; exact HM2.out, HST.out.blk HB.out (by omega), HX.out.step HST.out (fun b hb => by omega), Nat.le_trans hsz HST.out.size⟩
      case measure => simp [intOf]; omega
    · obtain rfl : j = xs.length := by omega
      rw [List.take_of_length_le (by rw [List.length_map]; exact Nat.le_refl _)] at HM
      obtain ⟨-, sm, ms, hbm, hsm, hme⟩ := HM.out
      have hbu := fun W (hW : Ext wr W) => build_any (HE.out.ext (hX.trans hW)) (by omega)
      have HBU := Lib.hid hbu
      have HSS := Lib.hid (show ∀ W, St (fun b => b = w.heap.size) wr W → W.cell? ⟨w.heap.size + 1, 0, none⟩ = some (.slice sm.a ms.length sm.c) from fun W hW => (hW.blk hbm (by omega)).cell 0)
      have HSM := Lib.hid hsm
      have HME := Lib.hid hme
      clear hM hB hX hbm hsm hme hbu
      go_wp2_with fail
      refine wp_region_held_drew (S := (fun w' => St (fun b => b = w.heap.size) wr w')) (by kernel_rfl) (((St.refl _ wr).drew)) (fun hHeld => ?_)
      refine held_on (i := 0) (d := (some 31)) (v := ?_) rfl rfl (by kernel_rfl) (by kernel_rfl) (by kernel_rfl) (fun _ _ _ h => h) (by rfl) hHeld ?_ ?_
      rotate_left
      focus (intro w hSw; have hSc := HSS.out w hSw; clear hSw; go_simp; first | done | with_reducible rfl)
      try simp only [Act.put, List.setIfInBounds_toArray, List.set_cons_zero, List.set_cons_succ]
      refine held_on (i := 2) (d := (some 33)) (v := ?_) rfl rfl (by kernel_rfl) (by kernel_rfl) (by kernel_rfl) (fun _ _ _ h => h) (by rfl) hHeld ?_ ?_
      rotate_left
      focus (intro w hSw; have hSc := HSS.out w hSw; clear hSw; go_simp; first | done | with_reducible rfl)
      try simp only [Act.put, List.setIfInBounds_toArray, List.set_cons_zero, List.set_cons_succ]
      refine held_on (i := 3) (d := (some 34)) (v := ?_) rfl rfl (by kernel_rfl) (by kernel_rfl) (by kernel_rfl) (fun _ _ _ h => h) (by rfl) hHeld ?_ ?_
      rotate_left
      focus (intro w hSw; have hSc := HSS.out w hSw; clear hSw; go_simp; first | done | with_reducible rfl)
      try simp only [Act.put, List.setIfInBounds_toArray, List.set_cons_zero, List.set_cons_succ]
      refine held_on (i := 4) (d := (some 35)) (v := ?_) rfl rfl (by kernel_rfl) (by kernel_rfl) (by kernel_rfl) (fun _ _ _ h => h) (by rfl) hHeld ?_ ?_
      rotate_left
      focus (intro w hSw; have hSc := HSS.out w hSw; clear hSw; go_simp; first | done | with_reducible rfl)
      try simp only [Act.put, List.setIfInBounds_toArray, List.set_cons_zero, List.set_cons_succ]
      refine held_on (i := 5) (d := (some 36)) (v := ?_) rfl rfl (by kernel_rfl) (by kernel_rfl) (by kernel_rfl) (fun _ _ _ h => h) (by rfl) hHeld ?_ ?_
      rotate_left
      focus (intro w hSw; have hSc := HSS.out w hSw; clear hSw; go_simp; first | done | with_reducible rfl)
      try simp only [Act.put, List.setIfInBounds_toArray, List.set_cons_zero, List.set_cons_succ]
      refine held_call (i := 1) (by kernel_rfl) rfl (by rfl) (fun K hK => ?_)
      go_simp
      (refine (HBU.out _ ((Ext.refl wr).drew)).mono ?_; rintro e w2 ⟨T, rfl, hbt, hT, hx2⟩; obtain ⟨p, hp⟩ := rootV_ptr T; have HP := Lib.hid hp; have HT := Lib.hid hT; have HBT := Lib.hid hbt; have HX2 := Lib.hid (((Ext.refl wr).drew).trans hx2); dsimp only [treeV]; rw [hp]; have hb2 := HB.out.ext HX2.out; have c0 := hb2.cell 0; have f0 := hb2.frozen 0; have l0 := hb2.lt; clear hbt hT hx2 hp hb2)
      refine hK.out _ _ (HX2.out.st _) (fun hHeld => ?_)
      clear hK K
      try simp only [Act.put, List.setIfInBounds_toArray, List.set_cons_zero, List.set_cons_succ]
      refine held_call (i := 6) (by kernel_rfl) rfl (by rfl) (fun K hK => ?_)
      go_simp
      skip
      refine hK.out _ _ (hHeld.set (p := ⟨w.heap.size, 0, none⟩) (.inr rfl) _) (fun hHeld => ?_)
      clear hK K
      try simp only [Act.put, List.setIfInBounds_toArray, List.set_cons_zero, List.set_cons_succ]
      refine held_on (i := 7) (d := (some 3)) (v := ?_) rfl rfl (by kernel_rfl) (by kernel_rfl) (by kernel_rfl) (fun _ _ _ h => h) (by rfl) hHeld ?_ ?_
      rotate_left
      focus (intro w hSw; have hSc := HSS.out w hSw; clear hSw; go_simp; first | done | with_reducible rfl)
      try simp only [Act.put, List.setIfInBounds_toArray, List.set_cons_zero, List.set_cons_succ]
      refine held_on (i := 8) (d := (some 4)) (v := ?_) rfl rfl (by kernel_rfl) (by kernel_rfl) (by kernel_rfl) (fun _ _ _ h => h) (by rfl) hHeld ?_ ?_
      rotate_left
      focus (intro w hSw; have hSc := HSS.out w hSw; clear hSw; go_simp; first | done | with_reducible rfl)
      try simp only [Act.put, List.setIfInBounds_toArray, List.set_cons_zero, List.set_cons_succ]
      refine wpAnyH_done (by kernel_rfl) ?_ _
      have hset : St (fun b => b = w.heap.size) w2 (w2.setCell ⟨w.heap.size, 0, none⟩ (.pointer p)) := (St.refl (fun b => b = w.heap.size) w2).set (p := ⟨w.heap.size, 0, none⟩) (.inr rfl) _
      have q0 : (w2.setCell ⟨w.heap.size, 0, none⟩ (.pointer p)).cell? ⟨w.heap.size, 0, none⟩ = some (.pointer p) := World.cell?_setCell_same w2 _ _ c0
      have hE := (HX.out.trans HX2.out).step hset (fun b hb => by omega)
      have hxs := HX2.out.size
      have hMade : Made (w2.setCell ⟨w.heap.size, 0, none⟩ (.pointer p)) (putAll [] (xs.map LE.ent)) T sm ms := by
        refine ⟨HBT.out.both.1, HBT.out.both.2, ?_, ?_, ?_, HME.out⟩
        · have := putAll_len (xs.map LE.ent) []
          rw [List.length_map] at this
          simp only [List.length_nil] at this
          omega
        · exact (HT.out.agree (hset.agree.mono fun i hi => ⟨hi.2, by have h1 : wr.heap.size ≤ i := hi.1; omega⟩)).mono fun i hi => by rw [World.size_setCell]; exact hi.2
        · exact ((HSM.out.agree (HX2.out.agree fun b hb => hb.1)).agree (hset.agree.mono fun i hi => ⟨Nat.lt_of_lt_of_le hi.1 hxs, fun e => hi.2 (.inl e)⟩)).mono fun i hi => by rw [World.size_setCell]; exact Nat.lt_of_lt_of_le hi.1 hxs
      go_wp2_with fail
      refine bodyPost_ret (v := .tuple #[.agg #[.pointer p], .slice sm.a ms.length sm.c, .bool true]) (by simp [results, Try.results50, go_sem, q0]) rfl ?_
      exact ⟨T, sm, ms, by rw [treeV, HP.out], hMade, hE⟩
end Go.Proofs.Ytpapoalgocmlaaa
namespace Go.Proofs.Ytpapoalgocmlaaa
open Go.RowKit
set_option linter.unusedVariables false
set_option linter.unusedSimpArgs false

theorem klt_eq (a b : ByteArray) : klt a b = Op.bytesLess a.data.toList b.data.toList := by unfold klt; rw [toList_eq', toList_eq']
def num8 (n : Int) : Val := .mk 3 false n ByteArray.empty [] [] []
/-- The five, sorted. -/
def e5 : List Ent := [(⟨#[97]⟩, num8 1), (⟨#[98]⟩, num8 3), (⟨#[98, 47, 49]⟩, num8 4), (⟨#[98, 47, 50]⟩, num8 0), (⟨#[99]⟩, num8 2)]
theorem five_ent : (fiveL 5).map LE.ent = [(⟨#[98, 47, 50]⟩, num8 0), (⟨#[97]⟩, num8 1), (⟨#[99]⟩, num8 2), (⟨#[98]⟩, num8 3), (⟨#[98, 47, 49]⟩, num8 4)] := rfl
theorem e5_put : putAll [] ((fiveL 5).map LE.ent) = e5 := by
  rw [five_ent]
  simp [putAll, insE, klt_eq, e5, Op.bytesLess]
theorem e5_pos : posE e5 ⟨#[98, 47, 49, 53]⟩ = 3 := by simp [posE, e5, klt_eq, Op.bytesLess]
theorem e5_b : (prefixE ⟨#[98]⟩ e5).map Prod.fst = [⟨#[98]⟩, ⟨#[98, 47, 49]⟩, ⟨#[98, 47, 50]⟩] := by simp [prefixE, e5, toList_eq']
theorem e5_bs : (prefixE ⟨#[98, 47]⟩ e5).map Prod.fst = [⟨#[98, 47, 49]⟩, ⟨#[98, 47, 50]⟩] := by simp [prefixE, e5, toList_eq']
theorem Bw.tree {w w' : World} {T : RT} (h : TreeAt (Lt w.heap.size) T w) (k : Below w.heap.size w w') : TreeAt (Lt w.heap.size) T w' := ⟨h.1.agree (Agree.of_below k (F := Lt w.heap.size) fun _ h => h), fun b hb => Nat.lt_of_lt_of_le hb k.size⟩
theorem Bw.blk {w w' : World} {g : Nat} {t : TypeId} {cs : Array Value} (h : Blk w g t cs) (k : Below w.heap.size w w') : Blk w' g t cs := h.agree (Agree.of_below k (F := Lt w.heap.size) fun _ h => h) h.lt
/-- What Keys hands back of the five. -/
theorem keys_e5 {T : RT} {w W : World} (hT : TreeAt (Lt w.heap.size) T w) (ok : OkR T) (he : entsT T = e5) (hb : Below w.heap.size w W) {p : Option Addr} (hp : rootV T = .pointer p) (k : ByteArray) (hk : k.size ≤ maxLen) {ks : List ByteArray} (hks : (prefixE k e5).map Prod.fst = ks) :
    Calls Try.prog 57 #[.agg #[.pointer p], .string k] W fun e w' => ∃ s : Sl, e = .returned (.slice s.a ks.length s.c) ∧ Below W.heap.size W w' ∧ RS8 w' s ks := by
  have h := treeKeys_any (Bw.tree hT hb) ok (by rw [he]; decide) k hk
  rw [treeV, hp, he, hks] at h
  exact h
theorem RS8.blk {w : World} {g : Nat} {ks : List ByteArray} (hb : Blk w g 9 (ks.map Value.string).toArray) (hn : ks.length ≤ maxLen) : RS8 w ⟨some ⟨g, 0, none⟩, ks.length⟩ ks :=
  (Rd.block hb hn (by simp)).mono fun i hi => by rw [hi]; exact hb.lt
/-- The keys of the five are as they are said to be. -/
theorem same_lit {w : World} {s : Sl} {ks : List ByteArray} (h : RS8 w s ks) (hn : ks.length ≤ 1000000) : Calls Try.prog 104 #[.slice s.a ks.length s.c, .slice (some ⟨w.heap.size, 0, none⟩) ks.length ks.length] (w.alloc (.cells (ks.map Value.string).toArray 9)) fun e w' => e = .returned (.bool true) ∧ Ext w w' := by
  have hx : Ext w (w.alloc (.cells (ks.map Value.string).toArray 9)) := (Ext.refl w).alloc _ _
  have hm : ks.length ≤ maxLen := by unfold maxLen; omega
  have := same8_any (h.ext hx) (RS8.blk (Blk.new w 9 (ks.map Value.string).toArray) hm) hn hn
  refine this.mono fun e w' ⟨h1, h2⟩ => ⟨by rw [h1]; simp, hx.trans h2⟩
set_option maxRecDepth 100000 in
set_option maxHeartbeats 4000000 in
theorem known08 (w : World) : Calls Try.prog 51 #[] w fun e w' => e = .returned (.bool true) ∧ Below w.heap.size w w' := by
  go_enter Try.func51, Try.ntmps51
  go_wp2_with fail
  refine (five_any w).mono ?_
  rintro e w1 ⟨s, rfl, hs, hx1⟩
  have hbu : Calls Try.prog 63 #[.slice s.a 5 s.c] w1 (BuildPost ((fiveL 5).map LE.ent) w1) := build_any hs (by decide)
  have HBU := Lib.hid hbu
  have HX1 := Lib.hid hx1
  clear hs hx1 hbu
  go_wp2_with fail
  refine HBU.out.mono ?_
  rintro e w2 ⟨T, rfl, hbt, hT, hx2⟩
  obtain ⟨ok, hent⟩ := hbt.both
  rw [e5_put] at hent
  obtain ⟨p, hp⟩ := rootV_ptr T
  dsimp only [treeV]
  rw [hp]
  have hT2 : TreeAt (Lt w2.heap.size) T w2 := ⟨hT.mono fun b hb => hb.2, fun _ h => h⟩
  have hfr := fun W (hW : Ext w2 W) => treeFrom_any (hT2.ext hW) ok (by rw [hent]; decide) ⟨#[98, 47, 49, 53]⟩
  have hbf := fun W (hW : Ext w2 W) => treeBefore_any (hT2.ext hW) ok (by rw [hent]; decide) ⟨#[98, 47, 49, 53]⟩
  rw [treeV, hp, hent, e5_pos] at hfr hbf
  have hrk := fun W (hW : Below w2.heap.size w2 W) => treeRank_any (Bw.tree hT2 hW) ok (by rw [hent]; decide) ⟨#[98, 47, 49, 53]⟩
  rw [treeV, hp, hent, e5_pos] at hrk
  have hk1 := fun W (hW : Below w2.heap.size w2 W) => keys_e5 hT2 ok hent hW hp ⟨#[98]⟩ (by decide) e5_b
  have hk2 := fun W (hW : Below w2.heap.size w2 W) => keys_e5 hT2 ok hent hW hp ⟨#[98, 47]⟩ (by decide) e5_bs
  have HFR := Lib.hid (show ∀ W, Ext w2 W → Calls Try.prog 59 #[.agg #[.pointer p], .string ⟨#[98, 47, 49, 53]⟩] W (AtIPost (some (⟨#[98, 47, 50]⟩, num8 0)) W) from hfr)
  have HBF := Lib.hid (show ∀ W, Ext w2 W → Calls Try.prog 60 #[.agg #[.pointer p], .string ⟨#[98, 47, 49, 53]⟩] W (AtIPost (some (⟨#[98, 47, 49]⟩, num8 4)) W) from hbf)
  have HRK := Lib.hid hrk
  have HK1 := Lib.hid hk1
  have HK2 := Lib.hid hk2
  have HX2 := Lib.hid (HX1.out.trans hx2)
  have hx3 : Ext w2 (w2.alloc (.cells #[.pointer p] 30)) := (Ext.refl w2).alloc _ _
  have hb3 := Blk.new w2 30 #[.pointer p]
  have HX3 := Lib.hid hx3
  have HB3 := Lib.hid hb3
  clear hbt hT hx2 ok hent hp hT2 hfr hbf hrk hk1 hk2 hx3 hb3 HBU
  go_wp2_with fail
  refine (HFR.out _ HX3.out).mono ?_
  rintro e w4 ⟨sl, so, rfl, hx4, -⟩
  have h4 := HX3.out.trans hx4
  have HB4 := Lib.hid (HB3.out.ext hx4)
  have c4 : w4.cell? ⟨w2.heap.size, 0, none⟩ = some (.pointer p) := HB4.out.cell 0
  have HX4 := Lib.hid h4
  have hl4 := HB4.out.lt
  clear hx4 h4
  go_wp2_with fail
  have hx5 : Ext w4 (w4.alloc (.cells #[.string ⟨#[98, 47, 50]⟩, .int .i64 3, .bool false, .int .i64 0, .string ByteArray.empty, .slice sl.a 0 sl.c, .slice so.a 0 so.c] 56)) := (Ext.refl w4).alloc _ _
  have HB5 := Lib.hid (Blk.new w4 56 #[.string ⟨#[98, 47, 50]⟩, .int .i64 3, .bool false, .int .i64 0, .string ByteArray.empty, .slice sl.a 0 sl.c, .slice so.a 0 so.c])
  have HX5 := Lib.hid hx5
  clear hx5
  refine (HBF.out _ (HX4.out.trans HX5.out)).mono ?_
  rintro e w6 ⟨sl', so', rfl, hx6, -⟩
  have HX6 := Lib.hid ((HX4.out.trans HX5.out).trans hx6)
  have HB6 := Lib.hid (HB5.out.ext hx6)
  have HT6 := Lib.hid ((HB4.out.ext HX5.out).ext hx6)
  have c6 : w6.cell? ⟨w2.heap.size, 0, none⟩ = some (.pointer p) := HT6.out.cell 0
  have hl6 := HT6.out.lt
  clear hx6 c4
  go_upto_region 4 with (fail)
  generalize hW7 : World.alloc w6 _ = W7
  have hx7 : Ext w6 W7 := by rw [← hW7]; exact (Ext.refl w6).alloc _ _
  have hy7 : ∃ cs : Array Value, cs[0]? = some (.string ⟨#[98, 47, 49]⟩) ∧ Blk W7 w6.heap.size 56 cs := ⟨_, rfl, by rw [← hW7]; exact Blk.new w6 56 _⟩
  obtain ⟨ycs, hy0, hy7⟩ := hy7
  have HCC := Lib.hid (show ∀ W, Below W7.heap.size W7 W → W.cell? ⟨w2.heap.size, 0, none⟩ = some (.pointer p) ∧ W.cell? ⟨w4.heap.size, 0, none⟩ = some (.string ⟨#[98, 47, 50]⟩) ∧ W.cell? ⟨w6.heap.size, 0, none⟩ = some (.string ⟨#[98, 47, 49]⟩) from fun W hW =>
    ⟨(Bw.blk (HT6.out.ext hx7) hW).cell 0, (Bw.blk (HB6.out.ext hx7) hW).cell 0, ((Bw.blk hy7 hW).cell 0).trans hy0⟩)
  have HX7 := Lib.hid (HX6.out.trans hx7)
  obtain ⟨c7, -, -⟩ := HCC.out W7 (Below.refl _ _)
  clear hW7 hx7 hy7 hy0 c6
  go_wp2_with fail
  refine (HK1.out W7 HX7.out.below).mono ?_
  rintro e w8 ⟨s8, rfl, hb8, hr8⟩
  have HB8 := Lib.hid hb8
  have hsm := same_lit hr8 (by decide)
  have HSM := Lib.hid (show Calls Try.prog 104 #[.slice s8.a 3 s8.c, .slice (some ⟨w8.heap.size, 0, none⟩) 3 3] (w8.alloc (.cells #[.string ⟨#[98]⟩, .string ⟨#[98, 47, 49]⟩, .string ⟨#[98, 47, 50]⟩] 9)) fun e w' => e = .returned (.bool true) ∧ Ext w8 w' from hsm)
  clear hb8 hr8 hsm c7
  go_wp2_with fail
  refine HSM.out.mono ?_
  rintro e w9 ⟨rfl, hx9⟩
  have HB9 := Lib.hid (Bw.ext HB8.out hx9)
  obtain ⟨c9, -, -⟩ := HCC.out w9 HB9.out
  clear hx9
  go_wp2_with fail
  refine (HK2.out w9 (Bw.trans HX7.out.below HB9.out)).mono ?_
  rintro e w10 ⟨s10, rfl, hb10, hr10⟩
  have HB10 := Lib.hid (Bw.trans HB9.out hb10)
  have hsm := same_lit hr10 (by decide)
  have HSN := Lib.hid (show Calls Try.prog 104 #[.slice s10.a 2 s10.c, .slice (some ⟨w10.heap.size, 0, none⟩) 2 2] (w10.alloc (.cells #[.string ⟨#[98, 47, 49]⟩, .string ⟨#[98, 47, 50]⟩] 9)) fun e w' => e = .returned (.bool true) ∧ Ext w10 w' from hsm)
  clear hb10 hr10 hsm c9
  go_wp2_with fail
  refine HSN.out.mono ?_
  rintro e w11 ⟨rfl, hx11⟩
  have HB11 := Lib.hid (Bw.ext HB10.out hx11)
  obtain ⟨c11, -, -⟩ := HCC.out w11 HB11.out
  clear hx11
  go_wp2_with fail
  refine (HRK.out w11 (Bw.trans HX7.out.below HB11.out)).mono ?_
  rintro e w12 ⟨rfl, hx12⟩
  have HB12 := Lib.hid (Bw.ext HB11.out hx12)
  obtain ⟨-, d12, e12⟩ := HCC.out w12 HB12.out
  clear hx12 c11
  go_wp2_with fail
  go_ret
  exact ⟨rfl, (HX2.out.trans HX7.out).below.trans (HB12.out.mono (HX2.out.trans HX7.out).size)⟩
end Go.Proofs.Ytpapoalgocmlaaa
