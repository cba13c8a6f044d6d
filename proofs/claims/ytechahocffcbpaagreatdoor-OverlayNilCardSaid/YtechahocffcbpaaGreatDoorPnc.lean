/- What the theorem needs of the texts RangeC, Coll, Log, Trees, Get, Gather, Step, Build, AL, OvP, OvQ, Trod, TrodV, Put7, Held, Mend2, Do07, Held2, Sbs, OvMem, OvStep, OvGet, OvBack, OvBackW, ScanP, ScanW, ScanR, ScanT: no condition of its own. -/
import Derived.RangeFuncNested
import Derived.RangeFuncBound
import Derived.RangeFuncCalls
import Derived.RangeFuncLeaves
import Derived.OwnWalkIn
import Derived.Deep.RegionLaw
import Derived.Maps.OwnSet
import Derived.WideAt
import Derived.Lib.SliceRun
import Derived.Laws.IdiomStrings
import Derived.WalkArith
import Derived.ChangeArms
import Derived.DataReads
import Derived.Handed
import Derived.ChangeShapes
import Derived.WideShapes
import Derived.Deep.RegionHeld3
import Derived.Lib.Hide
import Derived.Below
import Derived.WideKeyArgs
import Derived.ChangeOld
import Derived.ProofKit
import Derived.OpenShut
import Derived.WalkKit
import Derived.StringKeys
import Derived.Deep.DeepCutAuto
import Derived.Test.YtechahocffcbpaaGreatDoorPna
import Derived.Test.YtechahocffcbpaaGreatDoorPnb
set_option maxRecDepth 100000
set_option maxHeartbeats 1000000
namespace Go.Proofs.YtechahocffcbpaaGreatDoor
open Go.RowKit
set_option linter.unusedVariables false
theorem St.then {C C1 : Nat → Prop} {a b c : World} (h : St C a b) (k : St C1 b c) (hC : ∀ i, i < a.heap.size → C1 i → C i) : St C a c :=
  ⟨k.os.trans h.os, k.tape.trans h.tape, k.output.trans h.output, Nat.le_trans h.size k.size, fun i hi hn => (k.block i (Nat.lt_of_lt_of_le hi h.size) (fun hh => hn (hC i hi hh))).trans (h.block i hi hn), fun b o => (k.fz b o).trans (h.fz b o)⟩
theorem St.put {l : Nat} {W : World} {o o' : Obj} (h : W.heap[l]? = some o) (hc : o.isCells = false) (hc' : o'.isCells = false) : St (fun b => b = l) W (W.putObj l o') :=
  ⟨rfl, rfl, rfl, by simp, fun b _ hn => World.putObj_heap_other hn, (Turned.put (Nat.le_refl l) h hc hc').fz⟩
structure Takes {α : Type} (P : Program) (l : Nat) (encs : α → Array Value) (G : List α → α → World → World → Prop) (J : List α → (Nat → Prop) → World → Prop) (Jx : List α → World → Prop) : Prop where
  lt : ∀ pre C W, J pre C W → ∀ b, C b → b < W.heap.size
  take : ∀ pre C x W0 W1, J pre C W0 → Ext W0 W1 → G pre x W0 W1 → YieldAt Fence.wide 4 P l (encs x) W1 fun e W' =>
    (e = .returned (.bool true) ∧ ∃ C', J (pre ++ [x]) C' W' ∧ St C W1 W' ∧ ∀ b, C' b → C b ∨ W1.heap.size ≤ b) ∨ (e = .returned (.bool false) ∧ Jx (pre ++ [x]) W' ∧ St C W1 W')
def SeqC {α : Type} (P : Program) (g : Nat) (lb : Array Value) (encs : α → Array Value) (K : Nat → Prop) (G : List α → α → World → World → Prop) (S Sp : List α → Prop) (w0 : World) : Prop :=
  ∀ (l : Nat) (J : List α → (Nat → Prop) → World → Prop) (Jx : List α → World → Prop) (C : Nat → Prop) (W : World), Takes P l encs G J Jx → Agree K w0 W → w0.heap.size ≤ W.heap.size → (∀ b, C b → ¬ K b) → J [] C W →
    Calls P g (#[.func (.yield l) #[] #[]] ++ lb) W fun e W' => (∃ v, e = .returned v) ∧ ((∃ xs C' W0, S xs ∧ J xs C' W0 ∧ Ext W0 W') ∨ (∃ pre W0, Sp pre ∧ Jx pre W0 ∧ Ext W0 W'))
def ownPostC {α : Type} (C : Nat → Prop) (I : List α → (Nat → Prop) → World → Prop) (Ix : Code → List α → World → Prop) (xs : List α) (W : World) : Exit → Act → World → Prop
  | .normal, _, W' => ∃ C', I xs C' W' ∧ St C W W' ∧ (∀ b, C' b → C b ∨ W.heap.size ≤ b) ∧ (∀ b, C' b → b < W'.heap.size)
  | .ret, _, W' => St C W W' ∧ Ix .ret xs W'
  | .exit id, _, W' => St C W W' ∧ Ix (.exit id) xs W'
  | .goto t, _, W' => St C W W' ∧ Ix (.goto t) xs W'
  | .panic _, _, _ => False
  | .outgrown, _, _ => False
theorem wpIn_rangeC {α : Type} {n : Nat} {P : Program} {g : Operand} {ps : Array Tmp} {assign body : Code} {Q : Exit → Act → World → Prop} {a : Act} {w : World}
    {gf : Nat} {lb : Array Value} (hg : a.eval g = .func (.func gf) #[] lb) (eg : ∀ args w, (callFunc gf args).run P w = .ok (.enter gf args) w)
    {encs : α → Array Value} {K : Nat → Prop} {G : List α → α → World → World → Prop} {S Sp : List α → Prop} {w0 : World} (hseq : SeqC P gf lb encs K G S Sp w0)
    (hA : Agree K w0 w) (hsz : w0.heap.size ≤ w.heap.size) (hK : ∀ b, K b → b < w.heap.size) (hps : ∀ x, (encs x).size = ps.size)
    (I : List α → (Nat → Prop) → World → Prop) (Ix : Code → List α → World → Prop) (C₀ : Nat → Prop) (hC : ∀ b, C₀ b → b < w.heap.size ∧ ¬ K b)
    (hI : ∀ {s C W W'}, I s C W → St (fun b => b = w.heap.size + 1) W W' → I s C W') (hIx : ∀ {c s W W'}, Ix c s W → St (fun b => b = w.heap.size + 1) W W' → Ix c s W')
    (h0 : ∀ W, Ext w W → w.heap.size + 2 ≤ W.heap.size → I [] C₀ W)
    (hround : ∀ (pre : List α) (C : Nat → Prop) (x : α) (W0 W1 : World), I pre C W0 → (∀ b, C b → b < W0.heap.size) → w.heap.size + 2 ≤ W0.heap.size → ¬ C (w.heap.size + 1) → Ext W0 W1 → G pre x W0 W1 →
      assign.wpIn (Fence.wide.inRound (w.heap.size + 1)) 4 P (Exit.then (fun a1 W2 => Ext W1 W2 ∧ ∀ W3, St (fun b => b = w.heap.size + 1) W2 W3 → body.wpIn (Fence.wide.inRound (w.heap.size + 1)) 4 P (ownPostC C I Ix (pre ++ [x]) W3) a1 W3) (fun _ _ _ => False))
        { tmps := (ps.zip (encs x)).foldl (fun t (p, v) => t.setIfInBounds p v) a.tmps, defers := [] } W1)
    (hdone : ∀ (D : Nat) (xs : List α) (C : Nat → Prop) (W : World), D = w.heap.size → S xs → I xs C W → W.heap[D]? = some (.deferred (some [])) → Q .normal { a with defers := { target := .collected D, args := #[] } :: a.defers } W)
    (hstop : ∀ (D : Nat) (c : Code) (pre : List α) (W : World), D = w.heap.size → Sp pre → Ix c pre W → W.heap[D]? = some (.deferred (some [])) → c.wpIn Fence.wide n P Q { a with defers := { target := .collected D, args := #[] } :: a.defers } W) :
    (Code.rangeFunc g ps assign body).wpIn Fence.wide n P Q a w := by
  refine wpIn_rangeFunc fun fn hfn => ?_
  rw [show Fence.wide.round = none from rfl]
  -- the loop's record at each of its states; where it lies, and the block of the rounds' deferred calls
  let rec_ : LoopState → Option Code → Obj := fun st pe => .loop { state := st, pending := pe, fn, tmps := a.tmps, params := ps, assign, body, defers := w.heap.size }
  let BK : LoopState → Option Code → World → Prop := fun st pe W => W.heap[w.heap.size + 1]? = some (rec_ st pe) ∧ W.heap[w.heap.size]? = some (.deferred (some []))
  have bkL : ∀ {st pe W}, BK st pe W → w.heap.size + 1 < W.heap.size := fun h => (Array.getElem?_eq_some_iff.1 h.1).1
  have bkE : ∀ {st pe W W'}, BK st pe W → Ext W W' → BK st pe W' := fun h he => ⟨(he.heap (Array.getElem?_eq_some_iff.1 h.1).1).trans h.1, (he.heap (Array.getElem?_eq_some_iff.1 h.2).1).trans h.2⟩
  have bkS : ∀ {st pe W W'} {C : Nat → Prop}, BK st pe W → St C W W' → ¬ C (w.heap.size + 1) → ¬ C w.heap.size → BK st pe W' := fun h hk h1 h2 => ⟨(hk.block _ (bkL h) h1).trans h.1, (hk.block _ (by have := bkL h; omega) h2).trans h.2⟩
  have bkP : ∀ {st pe W} (st' : LoopState) (pe' : Option Code), BK st pe W → BK st' pe' (W.putObj (w.heap.size + 1) (rec_ st' pe')) ∧ St (fun b => b = w.heap.size + 1) W (W.putObj (w.heap.size + 1) (rec_ st' pe')) := fun st' pe' h =>
    ⟨⟨World.putObj_heap_same (Array.getElem?_eq_some_iff.1 h.1).1, (World.putObj_heap_other (by omega)).trans h.2⟩, St.put h.1 rfl rfl⟩
  have e1 : Ext w (w.alloc (.deferred (some []))) := ext_obj w _ fun W i j h => by simp [World.frozen?, h]
  have e2 : Ext (w.alloc (.deferred (some []))) ((w.alloc (.deferred (some []))).alloc (rec_ .ready none)) := ext_obj _ _ fun W i j h => by simp [World.frozen?, h, rec_]
  have hrun := run_enterLoop_outer (P := P) (w := w) fn a.tmps ps assign body
  have bk1 : BK .ready none ((w.alloc (.deferred (some []))).alloc (rec_ .ready none)) :=
    ⟨by have := World.alloc_heap_new (w.alloc (.deferred (some []))) (rec_ .ready none); rwa [World.size_alloc] at this, (Below.heap_alloc _ _ _ (by simp)).trans (World.alloc_heap_new w _)⟩
  have eW := e1.trans e2
  have hs1 : w.heap.size + 2 ≤ ((w.alloc (.deferred (some []))).alloc (rec_ .ready none)).heap.size := by simp
  change _ = Result.ok _ ((w.alloc (.deferred (some []))).alloc (rec_ .ready none)) at hrun
  generalize (w.alloc (.deferred (some []))).alloc (rec_ .ready none) = W1 at *
  refine ⟨w.heap.size + 1, _, W1, { target := .fn (.func gf) lb, args := #[.func (.yield (w.heap.size + 1)) #[] #[]] }, W1, gf, #[.func (.yield (w.heap.size + 1)) #[] #[]] ++ lb, W1, hrun, ?_, ?_, ?_, fun h => by simp [Fence.wide] at h, ?_⟩
  · simp only [resolve, hg]
    simp [go_sem]
  · intro f' hf'; trivial
  · simp [invoke, go_sem, eg]
  refine callsIn_wide.2 ((hseq (w.heap.size + 1) (fun pre C W => ∃ C0 : Nat → Prop, C = (fun b => C0 b ∨ b = w.heap.size + 1) ∧ I pre C0 W ∧ (∀ b, C0 b → b < W.heap.size) ∧ ¬ C0 (w.heap.size + 1) ∧ ¬ C0 w.heap.size ∧ BK .ready none W) (fun pre W => ∃ c, Ix c pre W ∧ BK .done (some c) W) (fun b => C₀ b ∨ b = w.heap.size + 1) W1 ⟨?_, ?_⟩ (hA.trans (eW.agree hK)) (Nat.le_trans hsz eW.size) ?_
    ⟨C₀, rfl, h0 W1 eW hs1, fun b hb => by have := (hC b hb).1; omega, fun h => by have := (hC _ h).1; omega, fun h => by have := (hC _ h).1; omega, bk1⟩).mono ?_)
  · rintro pre C W ⟨C0, rfl, -, hlt, -, -, hbk⟩ b (hb | rfl)
    · exact hlt b hb
    · exact bkL hbk
  · rintro pre C x W0 Wy ⟨C0, rfl, hi, hlt, nL, nD, hbk⟩ hx hgd
    have hbk1 := bkE hbk hx
    have hl0 := bkL hbk
    refine ⟨fn, _, assign, body, run_yield (args := encs x) hbk1.1 (hps x), roundIn_of_wpIn hfn (wpIn_mono (hround pre C0 x W0 Wy hi hlt (by omega) nL hx hgd) ?_)⟩
    rintro e a3 W2 hp
    cases e with
    | normal =>
      obtain ⟨hx2, hb⟩ := hp
      have hbk2 := bkE hbk1 hx2
      obtain ⟨hbk3, ht3⟩ := bkP .busy none hbk2
      refine ⟨_, run_beginRound hbk2.1 rfl, wpIn_mono (hb _ ht3) ?_⟩
      have hl3 := bkL hbk3
      generalize W2.putObj (w.heap.size + 1) (rec_ .busy none) = W3 at *
      rintro e a4 W4 hq
      cases e with
      | normal =>
        obtain ⟨C', hi4, hst, hsub, hlt4⟩ := hq
        have hbk4 := bkS hbk3 hst nL nD
        obtain ⟨hbk5, ht5⟩ := bkP .ready none hbk4
        refine ⟨_, _, run_endRound none hbk4.1, .inl ⟨rfl, _, ⟨C', rfl, hI hi4 ht5, fun b hb => Nat.lt_of_lt_of_le (hlt4 b hb) ht5.size, fun h => ?_, fun h => ?_, hbk5⟩, ?_, ?_⟩⟩
        · rcases hsub _ h with h | h
          · exact nL h
          · omega
        · rcases hsub _ h with h | h
          · exact nD h
          · omega
        · exact (((hx2.st _).trans (ht3.mono fun i _ hi => .inr hi)).trans (hst.mono fun i _ hi => .inl hi)).trans (ht5.mono fun i _ hi => .inr hi)
        · rintro b (hb | rfl)
          · rcases hsub b hb with h | h
            · exact .inl (.inl h)
            · exact .inr (by have := hx2.size; have := ht3.size; omega)
          · exact .inl (.inr rfl)
      | ret =>
        have hbk4 := bkS hbk3 hq.1 nL nD
        obtain ⟨hbk5, ht5⟩ := bkP .done (some .ret) hbk4
        exact ⟨_, _, run_endRound (some .ret) hbk4.1, .inr ⟨rfl, ⟨.ret, hIx hq.2 ht5, hbk5⟩, (((hx2.st _).trans (ht3.mono fun i _ hi => .inr hi)).trans (hq.1.mono fun i _ hi => .inl hi)).trans (ht5.mono fun i _ hi => .inr hi)⟩⟩
      | exit id =>
        have hbk4 := bkS hbk3 hq.1 nL nD
        obtain ⟨hbk5, ht5⟩ := bkP .done (some (.exit id)) hbk4
        exact ⟨_, _, run_endRound (some (.exit id)) hbk4.1, .inr ⟨rfl, ⟨.exit id, hIx hq.2 ht5, hbk5⟩, (((hx2.st _).trans (ht3.mono fun i _ hi => .inr hi)).trans (hq.1.mono fun i _ hi => .inl hi)).trans (ht5.mono fun i _ hi => .inr hi)⟩⟩
      | goto t =>
        have hbk4 := bkS hbk3 hq.1 nL nD
        obtain ⟨hbk5, ht5⟩ := bkP .done (some (.goto t)) hbk4
        exact ⟨_, _, run_endRound (some (.goto t)) hbk4.1, .inr ⟨rfl, ⟨.goto t, hIx hq.2 ht5, hbk5⟩, (((hx2.st _).trans (ht3.mono fun i _ hi => .inr hi)).trans (hq.1.mono fun i _ hi => .inl hi)).trans (ht5.mono fun i _ hi => .inr hi)⟩⟩
      | panic ch => exact hq.elim
      | outgrown => exact hq.elim
    | ret => exact hp.elim
    | exit id => exact hp.elim
    | goto t => exact hp.elim
    | panic ch => exact hp.elim
    | outgrown => exact hp.elim
  · rintro b (hb | rfl) hk
    · exact (hC b hb).2 hk
    · have := hK _ hk; omega
  · rintro e W2 ⟨⟨v, rfl⟩, (⟨xs, C, W0, hS, ⟨C0, rfl, hi, -, -, -, hbk⟩, hx⟩ | ⟨pre, W0, hSp, ⟨c, hi, hbk⟩, hx⟩)⟩
    · have hbk2 := bkE hbk hx
      obtain ⟨hbk5, ht5⟩ := bkP .exhausted none hbk2
      exact ⟨none, _, run_endLoop hbk2.1 (by simp), hdone _ xs C0 _ rfl hS (hI hi ((hx.st _).trans ht5)) hbk5.2⟩
    · have hbk2 := bkE hbk hx
      obtain ⟨hbk5, ht5⟩ := bkP .exhausted (some c) hbk2
      exact ⟨some c, _, run_endLoop hbk2.1 (by simp), hstop _ c pre _ rfl hSp (hIx hi ((hx.st _).trans ht5)) hbk5.2⟩
theorem wpListIn_append_x {F : Fence} {n : Nat} {P : Program} (w : World) {ops : Array Oper} {rest : List Oper} {o : Oper} {a : Act} {Q : Exit → Act → World → Prop} (hgd : o.guard = none) (s' x : Operand) (t : TypeId)
    (ho : o.op = .call { callee := .builtin .append, args := #[s', x], argTypes := #[t, t] })
    (base : Nat) (e : TypeId) (i : TypeInfo) (z : Value) (size bytes : Nat) (ht : P.underlying t = some (.slice e)) (hi : P.info? e = some i) (hz : i.zero = some z)
    (hsize : i.size = size) (hby : i.bytes = bytes) (hzs : z.cells.size = size) (hsz : 0 < size)
    (s : Sl) (k : Nat) (xs : List Value) (hs : a.eval s' = .slice s.a k s.c) (hown : w.ownsRow base e size (.slice s.a k s.c) k xs)
    (G : Nat → Prop) (sx : Sl) (m : Nat) (news : List Value) (hx : a.eval x = .slice sx.a m sx.c) (hsrc : Rd w G size sx m news) (h1 : ∀ u ∈ news, u.oneCell' = true)
    (h63 : k + m ≤ maxLen) (hbytes : (k + m) * bytes ≤ 140737488355328) (hbase : base ≤ w.heap.size)
    (h : ∀ (s' : Sl) (w' : World), w'.ownsRow base e size (.slice s'.a (k + m) s'.c) (k + m) (xs ++ news) → Wr w w' s.row → (s'.a = s.a ∨ s'.a = some ⟨w.heap.size, 0, none⟩ ∧ Wr w w' none) → wpListIn F n P ops Q rest (a.put o.dst (.slice s'.a (k + m) s'.c)) w') : wpListIn F n P ops Q (o :: rest) a w := by
  refine wpListIn_plain hgd fun K hK' => ?_
  obtain ⟨v', w', hr, h2, h3, h4⟩ := run_append_x (P := P) w base t o.type e i z size bytes ht hi hz hsize hby hzs hsz s k xs hown G sx m news hsrc h1 h63 hbytes hbase
  unfold Oper.wpIn
  refine ⟨?_, ?_⟩
  · simp [Oper.about, ho, resolve, Target.leads, Sem.run_pure]
  · rw [Oper.semAt_plain F _ _ (by rw [ho]; intro c hc'; cases hc')]
    simp [execOp, ho, resolve, invoke, builtin, hs, hx, hr, Result.andThen]
    exact hK' _ _ (h v' w' h2 h3 h4)
theorem St.putV {H : Nat → Prop} {a w : World} (h : St H a w) {b : Nat} (hb : a.heap.size ≤ b ∨ H b) (o : Nat) (d : Val) (sl so : Sl) : St H a (putV w b o d sl so) :=
  (((((h.set (p := ⟨b, _, none⟩) hb _).set (p := ⟨b, _, none⟩) hb _).set (p := ⟨b, _, none⟩) hb _).set (p := ⟨b, _, none⟩) hb _).set (p := ⟨b, _, none⟩) hb _).set (p := ⟨b, _, none⟩) hb _
theorem St.putM {H : Nat → Prop} {a w : World} (h : St H a w) {b : Nat} (hb : a.heap.size ≤ b ∨ H b) (o : Nat) (k : ByteArray) (d : Val) (sl so : Sl) : St H a (putM w b o k d sl so) :=
  (h.set (p := ⟨b, _, none⟩) hb _).putV hb _ _ _ _
end Go.Proofs.YtechahocffcbpaaGreatDoor
namespace Go.Proofs.YtechahocffcbpaaGreatDoor
open Go.RowKit
set_option linter.unusedVariables false
set_option linter.unusedSimpArgs false
theorem Blk.c3 {w : World} {g : Nat} {t : TypeId} {v0 v1 v2 : Value} (h : Blk w g t #[v0, v1, v2]) : w.cell? ⟨g, 0, none⟩ = some v0 ∧ w.cell? ⟨g, 1, none⟩ = some v1 ∧ w.cell? ⟨g, 2, none⟩ = some v2 := ⟨h.cell 0, h.cell 1, h.cell 2⟩
theorem RV.flat (w : World) (F : Nat → Prop) (kind : Int) (b : Bool) (i : Int) (t : ByteArray) (hk : (Lit.int .i64 kind).wf = true) (hi : (Lit.int .i64 i).wf = true) (ht : t.size ≤ maxLen) : RV w F (.mk kind b i t [] [] []) Sl.none Sl.none :=
  .mk 0 0 0 0 (fun _ => (Sl.none, Sl.none)) (fun _ => (Sl.none, Sl.none)) (.nil _ _) (.nil _ _) rfl (fun _ _ h => by simp at h) (fun _ _ h => by simp at h) (fun _ _ h => by simp at h) (fun _ _ h => by simp at h) (fun _ _ h => by simp at h) hk hi ht (by simp) (by simp)
theorem IsT.lt {w : World} {F : Nat → Prop} {T : RT} (h : IsT w F T) {a : Nat} (ha : rootV T = .pointer (some ⟨a, 0, none⟩)) : a < w.heap.size := by
  match T, h with
  | none, _ => cases ha
  | some ⟨n, t⟩, h =>
    simp only [rootV, ptr, Value.pointer.injEq, Option.some.injEq, Addr.mk.injEq, and_true] at ha
    subst ha
    obtain ⟨-, _, _, _, _, -, hb⟩ := IsN.cells h
    exact hb.lt
theorem pos_split (es : List Ent) (k : ByteArray) (hs : Sorted es) : (∀ e ∈ es.take (posE es k), klt e.1 k = true) ∧ (∀ e ∈ es.drop (posE es k), klt e.1 k = false) := by
  have e1 : es.take (posE es k) = es.takeWhile fun e => klt e.1 k := (List.prefix_iff_eq_take.1 (List.takeWhile_prefix (l := es) (fun e : Ent => klt e.1 k))).symm
  have e2 : es.drop (posE es k) = es.dropWhile fun e => klt e.1 k := by
    have h1 := List.take_append_drop (posE es k) es
    rw [e1] at h1
    have h2 := List.takeWhile_append_dropWhile (p := fun e : Ent => klt e.1 k) (l := es)
    exact List.append_cancel_left (h1.trans h2.symm)
  refine ⟨fun e he => ?_, fun e he => ?_⟩
  · rw [e1] at he
    exact List.all_eq_true.1 (List.all_takeWhile (l := es) (p := fun e : Ent => klt e.1 k)) e he
  · have hsd : Sorted (es.drop (posE es k)) := List.Pairwise.sublist (List.drop_sublist _ _) hs
    rw [e2] at he hsd
    cases hd : es.dropWhile fun e => klt e.1 k with
    | nil => rw [hd] at he; cases he
    | cons x xs =>
      rw [hd] at he hsd
      have hx : klt x.1 k = false := by
        have := List.head?_dropWhile_not (fun e : Ent => klt e.1 k) es
        rw [hd] at this
        simpa using this
      rcases List.mem_cons.1 he with rfl | he
      · exact hx
      · have := (List.pairwise_cons.1 hsd).1 e he
        cases hc : klt e.1 k
        · rfl
        · rw [klt_trans this hc] at hx; cases hx
theorem getE_pos {es : List Ent} (hs : Sorted es) (k : ByteArray) : getE es k = (es[posE es k]?).bind fun e => if e.1 = k then some e.2 else none := by
  obtain ⟨hA, hB⟩ := pos_split es k hs
  have hsd : Sorted (es.drop (posE es k)) := List.Pairwise.sublist (List.drop_sublist _ _) hs
  conv => lhs; rw [← List.take_append_drop (posE es k) es]
  rw [getE_app hA, ← Nat.add_zero (posE es k), ← List.getElem?_drop, Nat.add_zero]
  cases hd : es.drop (posE es k) with
  | nil => rfl
  | cons x xs =>
    rw [hd] at hsd hB
    simp only [List.getElem?_cons_zero, Option.bind_some, getE]
    by_cases hx : x.1 = k
    · simp [hx]
    · simp only [hx, if_false]
      refine getE_none fun e he => ?_
      have h1 := klt_of_not (hB x (List.mem_cons_self ..)) hx
      have h2 := klt_trans h1 ((List.pairwise_cons.1 hsd).1 e he)
      rintro rfl
      rw [klt_irrefl] at h2; cases h2
def GetPost (o : Option Val) (w : World) (e : Ending) (w' : World) : Prop :=
  ∃ sl so, e = .returned (.tuple #[aggV (o.getD zeroV) sl so, .bool o.isSome]) ∧ Ext w w' ∧ RV w' (In w.heap.size w'.heap.size) (o.getD zeroV) sl so
/-- The closure of get. -/
theorem get1_any {W : World} {nv : Value} {b1 b2 : Nat} {k k' : ByteArray} {v : Val} {i : Nat} (h1 : W.cell? ⟨b1, 0, none⟩ = some nv) (h2 : W.cell? ⟨b2, 0, none⟩ = some (.string k))
    (hp : ∃ p, nv = .pointer p) (hc : Calls Tryz.prog 75 #[nv, .int .i64 i] W (EntryPost k' v W)) :
    Calls Tryz.prog 74 #[.int .i64 i, .pointer (some ⟨b1, 0, none⟩), .pointer (some ⟨b2, 0, none⟩)] W fun e w' => e = .returned (.bool !(klt k' k)) ∧ Ext W w' := by
  obtain ⟨p, rfl⟩ := hp
  have hb2 := World.block_lt_of_cell? W _ h2
  go_enter Tryz.func74, Tryz.ntmps74
  go_wp2_with fail
  refine hc.mono ?_
  rintro e w1 ⟨sl, so, rfl, hx, -⟩
  have q2 := (hx.cell hb2).trans h2
  have l2 : b2 < w1.heap.size := Nat.lt_of_lt_of_le hb2 hx.size
  have HX := Lib.hid hx
  clear hc hx h2
  go_wp2
  go_ret
  exact ⟨rfl, HX.out.alloc _ _⟩
structure GetS (w : World) (nv : Value) (k : ByteArray) (W : World) : Prop where
  ext : Ext w W
  b0 : Blk W w.heap.size 23 #[nv]
  b1 : Blk W (w.heap.size + 1) 9 #[.string k]
  b2 : Blk W (w.heap.size + 1 + 1) 34 #[.int .i64 0, .bool false, .int .i64 0, .string ByteArray.empty, .slice none 0 0, .slice none 0 0]
theorem GetS.step {w W W' : World} {nv : Value} {k : ByteArray} (h : GetS w nv k W) (he : Ext W W') : GetS w nv k W' := ⟨h.ext.trans he, h.b0.ext he, h.b1.ext he, h.b2.ext he⟩
theorem entry_nil (w : World) (i : Int) : Calls Tryz.prog 75 #[.pointer none, .int .i64 i] w fun e w' => e = .returned (.tuple #[aggE ByteArray.empty zeroV Sl.none Sl.none, .bool false]) ∧ Ext w w' := by
  go_enter Tryz.func75, Tryz.ntmps75
  go_wp2_with fail
  refine bodyPost_ret (v := .tuple #[aggE ByteArray.empty zeroV Sl.none Sl.none, .bool false]) (by simp [results, Tryz.results75, go_sem]; exact ⟨rfl, rfl, rfl, rfl, rfl, rfl, rfl⟩) rfl ⟨rfl, (Ext.refl w).alloc _ _⟩
theorem get_leaf {w : World} {nv : Value} {es : List Ent} (hp : ∃ p, nv = .pointer p) (hh : ∀ W, Ext w W → Calls Tryz.prog 69 #[nv] W fun e w' => e = .returned (.int .i64 0) ∧ W = w')
    (hz : ∀ W, Ext w W → Calls Tryz.prog 73 #[nv] W fun e w' => e = .returned (.int .i64 es.length) ∧ ∃ q, w' = W.drewN q)
    (he : ∀ W, Ext w W → ∀ (i : Nat) (e : Ent), es[i]? = some e → Calls Tryz.prog 75 #[nv, .int .i64 i] W (EntryPost e.1 e.2 W))
    (hno : ∀ W, Ext w W → ∀ i : Nat, es.length ≤ i → Calls Tryz.prog 75 #[nv, .int .i64 i] W fun e w' => e = .returned (.tuple #[aggE ByteArray.empty zeroV Sl.none Sl.none, .bool false]) ∧ Ext W w')
    (hs : Sorted es) (hl : es.length ≤ 1000) (k : ByteArray) : Calls Tryz.prog 42 #[nv, .string k] w (GetPost (getE es k) w) := by
  have HH := Lib.hid hh
  have HZ := Lib.hid hz
  have HE := Lib.hid he
  have HNO := Lib.hid hno
  have HS := Lib.hid hs
  obtain ⟨pp, rfl⟩ := hp
  clear hh hz he hno hs
  have hsr : ∀ W, GetS w (.pointer pp) k W → Calls Tryz.prog 72 #[.int .i64 es.length, .func (.func 74) #[] #[.pointer (some ⟨w.heap.size, 0, none⟩), .pointer (some ⟨w.heap.size + 1, 0, none⟩)]] W (SearchPost es.length (fun i => !(klt ((es[i]?.map Prod.fst).getD ByteArray.empty) k)) W) := by
    intro W hW
    refine search_any 74 _ _ es.length _ W (enters_of Tryz.func74 (by kernel_rfl) rfl) (by omega) ?_ ?_
    · intro i W' hi hW'
      obtain ⟨x, hx⟩ : ∃ x, es[i]? = some x := ⟨_, List.getElem?_eq_getElem hi⟩
      rw [hx]
      have hS := hW.step hW'
      exact get1_any (hS.b0.cell 0) (hS.b1.cell 0) ⟨_, rfl⟩ (HE.out W' hS.ext i x hx)
    · intro i j hij hj hpi
      by_cases hij' : i = j
      · subst hij'; exact hpi
      · obtain ⟨x, hx⟩ : ∃ x, es[i]? = some x := ⟨_, List.getElem?_eq_getElem (by omega)⟩
        obtain ⟨y, hy⟩ : ∃ y, es[j]? = some y := ⟨_, List.getElem?_eq_getElem hj⟩
        have hxy := sorted_lt HS.out (i := i) (j := j) (by omega) hx hy
        rw [hx] at hpi; rw [hy]
        simp only [Option.map_some, Option.getD_some, Bool.not_eq_true'] at hpi ⊢
        cases hyk : klt y.1 k
        · rfl
        · have := klt_trans hxy hyk
          rw [hpi] at this; cases this
  go_enter Tryz.func42, Tryz.ntmps42
  go_wp2_with fail
  generalize hW0 : World.alloc _ _ = W0
  obtain ⟨hx0, hz0, hb0, hb1, hb2⟩ := three_blocks w _ _ _ _ _ _ W0 hW0
  have hS0 : GetS w (.pointer pp) k W0 := ⟨hx0, hb0, hb1, hb2⟩
  have HS0 := Lib.hid hS0
  have q0 : W0.cell? ⟨w.heap.size, 0, none⟩ = some (.pointer pp) := hb0.cell 0
  clear hW0 hb0 hb1 hb2 hS0
  refine (HH.out W0 hx0).mono ?_
  rintro e w1 ⟨rfl, rfl⟩
  go_wp2_with fail
  refine (HZ.out W0 hx0).mono ?_
  rintro e w1 ⟨rfl, q, rfl⟩
  go_wp2_with fail
  refine (hsr _ (HS0.out.step ((Ext.refl _).drewN q))).mono ?_
  rintro e w1 ⟨p, rfl, hp, hlo, hhi, he1⟩
  have hS1 := HS0.out.step (((Ext.refl _).drewN q).trans he1)
  have HS1 := Lib.hid hS1
  have r0 : w1.cell? ⟨w.heap.size, 0, none⟩ = some (.pointer pp) := hS1.b0.cell 0
  have hpos : posE es k = p := posE_of hp (fun i e hi he => by
      have : (!(klt ((es[i]?.map Prod.fst).getD ByteArray.empty) k)) = false := hlo i hi
      rw [he] at this
      simpa using this) (fun e he => by
      have : (!(klt ((es[p]?.map Prod.fst).getD ByteArray.empty) k)) = true := hhi p (Nat.le_refl _) (List.getElem?_eq_some_iff.1 he).1
      rw [he] at this
      simpa using this)
  have hget : getE es k = (es[p]?).bind fun e => if e.1 = k then some e.2 else none := by rw [getE_pos HS.out, hpos]
  have HG := Lib.hid hget
  clear hlo hhi hpos hsr he1 hS1 q0 hget hx0 hz0
  go_wp2_with fail
  by_cases hlt : p < es.length
  · obtain ⟨x, hx⟩ : ∃ x, es[p]? = some x := ⟨_, List.getElem?_eq_getElem hlt⟩
    have hc := HE.out w1 HS1.out.ext p x hx
    have HX := Lib.hid hx
    clear hx
    refine hc.mono ?_
    rintro e w2 ⟨sl, so, rfl, hx2, hrv⟩
    have hS2 := HS1.out.step hx2
    have HS2 := Lib.hid hS2
    have q1 : w2.cell? ⟨w.heap.size + 1, 0, none⟩ = some (.string k) := hS2.b1.cell 0
    obtain ⟨c0, c1, c2, c3, c4, c5⟩ := hS2.b2.c6
    have f2 := hS2.b2.frozen
    have l2 := hS2.b2.lt
    have l1 : w.heap.size + 1 < w2.heap.size := by omega
    have HRV := Lib.hid hrv
    clear hS2 hx2 hrv hc
    by_cases hk : x.1 = k
    · have hkb : (x.1.toList == k.toList) = true := by rw [beq_toList]; simpa using hk
      have hg : getE es k = some x.2 := by rw [HG.out, HX.out]; simp [hk]
      have HGG := Lib.hid hg
      clear hk hg
      go_wp2_with fail
      refine bodyPost_ret (v := .tuple #[aggV x.2 sl so, .bool true]) (by simp [results, Tryz.results42, go_sem, c0, c1, c2, c3, c4, c5, l2]) rfl ?_
      have hE := HS2.out.ext.putV (b := w.heap.size + 1 + 1) (by omega) 0 x.2 sl so
      have hr := (HRV.out.mono (G := In w.heap.size w2.heap.size) fun i hi => ⟨Nat.le_trans HS1.out.ext.size hi.1, hi.2⟩)
      have hr2 : RV w2 (fun b => In w.heap.size w2.heap.size b ∧ b ≠ w.heap.size + 1 + 1) x.2 sl so := HRV.out.mono fun i hi => ⟨⟨Nat.le_trans HS1.out.ext.size hi.1, hi.2⟩, by have := HS1.out.b2.lt; have := hi.1; omega⟩
      have hr3 := hr2.agree (putV_agree w2 (w.heap.size + 1 + 1) 0 x.2 sl so (F := fun b => In w.heap.size w2.heap.size b ∧ b ≠ w.heap.size + 1 + 1) (fun h => h.2 rfl))
      refine ⟨sl, so, by rw [HGG.out]; rfl, hE.alloc _ _, ?_⟩
      rw [HGG.out]
      refine (hr3.agree (Agree.alloc _ _ (fun b hb => by rw [putV_size]; exact hb.1.2))).mono fun i hi => ⟨hi.1.1, ?_⟩
      have := hi.1.2
      simp; omega
    · have hkb : (x.1.toList == k.toList) = false := by rw [beq_toList]; simpa using hk
      have hg : getE es k = none := by rw [HG.out, HX.out]; simp [hk]
      have HGG := Lib.hid hg
      clear hk hg
      go_wp2_with fail
      refine bodyPost_ret (v := .tuple #[aggV zeroV Sl.none Sl.none, .bool false]) (by simp [results, Tryz.results42, go_sem, c0, c1, c2, c3, c4, c5, l2]; exact ⟨rfl, rfl, rfl, rfl, rfl, rfl⟩) rfl ?_
      have hE := HS2.out.ext.putV (b := w.heap.size + 1 + 1) (by omega) 0 zeroV Sl.none Sl.none
      exact ⟨Sl.none, Sl.none, by rw [HGG.out]; rfl, hE.alloc _ _, by rw [HGG.out]; exact RV.flat _ _ _ _ _ _ rfl rfl (by decide)⟩
  · have hnn : es[p]? = none := List.getElem?_eq_none (by omega)
    have hg : getE es k = none := by rw [HG.out, hnn]; rfl
    have hc := HNO.out w1 HS1.out.ext p (by omega)
    have HGG := Lib.hid hg
    clear hg hnn
    refine hc.mono ?_
    rintro e w2 ⟨rfl, hx2⟩
    have hS2 := HS1.out.step hx2
    have HS2 := Lib.hid hS2
    obtain ⟨c0, c1, c2, c3, c4, c5⟩ := hS2.b2.c6
    have f2 := hS2.b2.frozen
    have l2 := hS2.b2.lt
    clear hS2 hx2 hc
    go_wp2_with fail
    refine bodyPost_ret (v := .tuple #[aggV zeroV Sl.none Sl.none, .bool false]) (by simp [results, Tryz.results42, go_sem, c0, c1, c2, c3, c4, c5, l2]; exact ⟨rfl, rfl, rfl, rfl, rfl, rfl⟩) rfl ?_
    have hE := HS2.out.ext.putV (b := w.heap.size + 1 + 1) (by omega) 0 zeroV Sl.none Sl.none
    exact ⟨Sl.none, Sl.none, by rw [HGG.out]; rfl, hE.alloc _ _, by rw [HGG.out]; exact RV.flat _ _ _ _ _ _ rfl rfl (by decide)⟩
theorem get_nil (w : World) (k : ByteArray) : Calls Tryz.prog 42 #[.pointer none, .string k] w (GetPost none w) :=
  get_leaf (es := []) ⟨_, rfl⟩ (fun W _ => height_nil W) (fun W _ => (size_nil W).mono fun e w' ⟨h1, h2⟩ => ⟨h1, 0, h2.symm⟩) (fun W _ i e h => by simp at h) (fun W _ i _ => entry_nil W i) List.Pairwise.nil (by simp) k
theorem get_zero {w : World} {t : PT 0} (hn : IsN w (Lt w.heap.size) 0 t) (ok : OkT 0 t) (hs : Sorted (ents 0 t)) (k : ByteArray) : Calls Tryz.prog 42 #[ptr 0 t, .string k] w (GetPost (getE (ents 0 t) k) w) := by
  have ok8 : (ents 0 t).length ≤ 8 := ok
  exact get_leaf ⟨_, rfl⟩ (fun W hW => height_any (hn.ext hW)) (fun W hW => size_any (hn.ext hW) (Nat.le_trans ok8 (by decide))) (fun W hW i e h => entry_any (hn.ext hW) h) (fun W hW i h => entry_none (hn.ext hW) (.inr (Int.ofNat_le.2 h))) hs (Nat.le_trans ok8 (by decide)) k
theorem get_succ {h : Nat} {k : ByteArray}
    (ih : ∀ (w : World) (F : Nat → Prop) (t : PT h), (∀ b, F b → b < w.heap.size) → IsN w F h t → OkT h t → Sorted (ents h t) → (ents h t).length ≤ 1000000 → Calls Tryz.prog 42 #[ptr h t, .string k] w (GetPost (getE (ents h t) k) w))
    {w : World} {F : Nat → Prop} {t : PT (h + 1)} (hF : ∀ b, F b → b < w.heap.size) (hn : IsN w F (h + 1) t) (ok : OkT (h + 1) t) (hs : Sorted (ents (h + 1) t)) (hc : (ents (h + 1) t).length ≤ 1000000) :
    Calls Tryz.prog 42 #[ptr (h + 1) t, .string k] w (GetPost (getE (ents (h + 1) t) k) w) := by
  have hpos := kids_pos ok
  have hh : h + 1 < 1000000 := Nat.lt_of_lt_of_le (height_lt (h + 1) t ok (by have := ok.1; show 1 ≤ t.2.length; omega)) hc
  obtain ⟨kid, hkid, hA, hC⟩ := which_split (h := h) (ks := t.2) hs hpos (by have := ok.1; omega) k
  have hkm' := List.mem_of_getElem? hkid
  have hil := (List.getElem?_eq_some_iff.1 hkid).1
  have hlen8 := ok.2.1
  have hks : ∀ x ∈ t.2, IsN w F h x := hn.2.choose_spec.2.2
  have hkc : (ents h kid).length ≤ 1000000 := Nat.le_trans (by
    show _ ≤ (t.2.flatMap (ents h)).length
    rw [take_mid hkid]; simp only [List.flatMap_append, List.flatMap_cons, List.length_append]; omega) hc
  have hge : getE (ents (h + 1) t) k = getE (ents h kid) k := getE_kid hkid hA hC
  rw [hge]
  have hih : ∀ W, Ext w W → Calls Tryz.prog 42 #[ptr h kid, .string k] W (GetPost (getE (ents h kid) k) W) := fun W hW =>
    ih W F kid (fun b hb => Nat.lt_of_lt_of_le (hF b hb) hW.size) ((hks kid hkm').agree (hW.agree hF)) (ok.2.2 kid hkm').1 (kid_sorted hs kid hkm') hkc
  generalize getE (ents h kid) k = og at *
  clear hge
  have HF := Lib.hid hF
  have HN := Lib.hid hn
  have HS := Lib.hid hs
  have HP := Lib.hid hpos
  have HIH := Lib.hid hih
  have HKS := Lib.hid hks
  have HKID := Lib.hid hkid
  have hgt : (0 : Int) < (h : Int) + 1 := by omega
  clear hF hn ok hs hc hpos hih hks hkid hA hC ih hkc
  go_enter Tryz.func42, Tryz.ntmps42
  go_wp2_with fail
  generalize hW0 : World.alloc _ _ = W0
  obtain ⟨hx0, hz0, hb0, hb1, hb2⟩ := three_blocks w _ _ _ _ _ _ W0 hW0
  have hS0 : GetS w (ptr (h + 1) t) k W0 := ⟨hx0, hb0, hb1, hb2⟩
  have HS0 := Lib.hid hS0
  have q0 : W0.cell? ⟨w.heap.size, 0, none⟩ = some (ptr (h + 1) t) := hb0.cell 0
  clear hW0 hb0 hb1 hb2 hS0
  have hnW : IsN W0 F (h + 1) t := HN.out.agree (hx0.agree HF.out)
  refine (height_any hnW).mono ?_
  rintro e w1 ⟨rfl, rfl⟩
  have hkc := kids_any hnW (by omega)
  clear hnW
  go_wp2_with fail
  refine hkc.mono ?_
  rintro e w1 ⟨s', rfl, hown, hx1⟩
  have hS1 := HS0.out.step hx1
  have HS1 := Lib.hid hS1
  have hrd : Rd w1 (Lt w1.heap.size) 1 s' t.2.length (ptrs h t.2) := (Rd.of_own hown).mono fun i hi => hi.2
  obtain ⟨g, cap, rfl, hbg, hnc, hcm, hfil⟩ := own_block hown (by omega)
  obtain ⟨i, hi⟩ : ∃ i, whichK h t.2 k = i := ⟨_, rfl⟩
  have hwh : ∀ W, Ext w1 W → Calls Tryz.prog 71 #[.slice (some ⟨g, 0, none⟩) t.2.length cap, .string k] W fun e w' => e = .returned (.int .i64 i) ∧ Ext W w' := fun W hW => by
    rw [← hi]
    exact which_any (s := ⟨some ⟨g, 0, none⟩, cap⟩) ((hrd.agree (hW.agree fun _ h => h)).mono fun i hi => Nat.lt_of_lt_of_le hi hW.size) (fun x hx => (HKS.out x hx).agree ((hS1.ext.trans hW).agree HF.out)) (fun b hb => Nat.lt_of_lt_of_le (HF.out b hb) (hS1.ext.trans hW).size) HP.out k HS.out (by omega)
  have hkid := HKID.out
  rw [hi] at hkid hil
  obtain ⟨b, o, hba, hbl, -, -, hbc⟩ := hrd.ptr_at hkid
  obtain ⟨rfl, rfl⟩ : g = b ∧ 0 = o := by simpa using hba
  have kc : w1.cell? ⟨g, i, none⟩ = some (ptr h kid) := by simpa using hbc
  have k1 : w1.cell? ⟨w.heap.size + 1, 0, none⟩ = some (.string k) := hS1.b1.cell 0
  have hg1 : g < w1.heap.size := hbl
  have hgn : ¬ g = w.heap.size + 1 + 1 := by omega
  have hgn' : ¬ w.heap.size + 1 + 1 = g := by omega
  clear hz0
  have l1 : w.heap.size + 1 < w1.heap.size := hS1.b1.lt
  have hii : (i : Int) < (t.2.length : Int) := by omega
  have hi0 : (0 : Int) ≤ (i : Int) := by omega
  have HWH := Lib.hid hwh
  have HHI := Lib.hid hi
  clear hwh hi hkid hbc hba hfil hown hrd hx1 hx0 hS1 hkc q0
  go_wp2_with fail
  go_region_held3 (fun w' => w'.cell? ⟨g, i, none⟩ = some (ptr h kid) ∧ w'.cell? ⟨w.heap.size + 1, 0, none⟩ = some (.string k)) (first | (with_reducible exact ⟨g3, k3⟩) | (with_reducible exact ⟨g2, k2⟩) | go_keep)
    (first
      | (go_at_call 71; refine (HWH.out _ ?_).mono ?_; (exact ((Ext.refl _).drew)); rintro e w2 ⟨rfl, hx2⟩; have g2 := (hx2.cell (o := i) hg1).trans kc; have k2 := (hx2.cell (o := 0) l1).trans k1; have hg2 := Nat.lt_of_lt_of_le hg1 hx2.size; have l2 := Nat.lt_of_lt_of_le l1 hx2.size)
      | (go_at_call 42; refine (HIH.out _ ?_).mono ?_; (exact HS1.out.ext.trans (((Ext.refl _).drew).trans hx2)); rintro e w3 ⟨sl, so, rfl, hx3, hrv⟩; have g3 := (hx3.cell (o := i) hg2).trans g2; have k3 := (hx3.cell (o := 0) l2).trans k2; have hS3 := HS1.out.step ((((Ext.refl _).drew).trans hx2).trans hx3); obtain ⟨c0, c1, c2, c3, c4, c5⟩ := hS3.b2.c6; have f3 := hS3.b2.frozen; have HS3 := Lib.hid hS3; have HX3 := Lib.hid hx3; have HRV := Lib.hid hrv; have HX2 := Lib.hid hx2; clear hS3 hx3 hrv hx2))
  go_wp2_with fail
  refine bodyPost_ret (v := .tuple #[aggV (og.getD zeroV) sl so, .bool og.isSome]) (by simp [results, Tryz.results42, go_sem, c0, c1, c2, c3, c4, c5]) rfl ?_
  have hE := HS3.out.ext.putV (b := w.heap.size + 1 + 1) (by omega) 0 (og.getD zeroV) sl so
  have hb2 := HS1.out.b2.lt
  have hX2 := HX2.out.size
  have hX3 := HX3.out.size
  have hE1 := HS1.out.ext.size
  rw [World.size_drew] at hX2
  have hr2 : RV w3 (fun b => In w.heap.size w3.heap.size b ∧ b ≠ w.heap.size + 1 + 1) (og.getD zeroV) sl so := HRV.out.mono fun i hi => ⟨⟨by have := hi.1; omega, hi.2⟩, by have := hi.1; omega⟩
  have hr3 := hr2.agree (putV_agree w3 (w.heap.size + 1 + 1) 0 (og.getD zeroV) sl so (F := fun b => In w.heap.size w3.heap.size b ∧ b ≠ w.heap.size + 1 + 1) (fun h => h.2 rfl))
  exact ⟨sl, so, rfl, hE, hr3.mono fun i hi => ⟨hi.1.1, by have := hi.1.2; simpa using this⟩⟩
theorem get_any {k : ByteArray} : ∀ (h : Nat) (w : World) (F : Nat → Prop) (t : PT h), (∀ b, F b → b < w.heap.size) → IsN w F h t → OkT h t → Sorted (ents h t) → (ents h t).length ≤ 1000000 → Calls Tryz.prog 42 #[ptr h t, .string k] w (GetPost (getE (ents h t) k) w)
  | 0, w, F, t, hF, hn, ok, hs, _ => get_zero (hn.mono hF) ok hs k
  | h + 1, w, F, t, hF, hn, ok, hs, hc => get_succ (fun w F t a b c d e => get_any h w F t a b c d e) hF hn ok hs hc
theorem getPost_end {w w3 : World} {b lo : Nat} {og : Option Val} {sl so : Sl} (hE : Ext w w3) (hb : w.heap.size ≤ b) (hlt : b < lo) (hr : RV w3 (In lo w3.heap.size) (og.getD zeroV) sl so) :
    GetPost og w (.returned (.tuple #[aggV (og.getD zeroV) sl so, .bool og.isSome])) (putV w3 b 0 (og.getD zeroV) sl so) := by
  refine ⟨sl, so, rfl, hE.putV hb _ _ _ _, ?_⟩
  rw [putV_size]
  exact (hr.agree (putV_agree w3 b 0 (og.getD zeroV) sl so (by omega))).mono fun i hi => ⟨by omega, hi.2⟩
theorem two_blocks (w : World) (t0 t1 : TypeId) (c0 c1 : Array Value) : ∀ W, (w.alloc (.cells c0 t0)).alloc (.cells c1 t1) = W →
    Ext w W ∧ W.heap.size = w.heap.size + 2 ∧ Blk W w.heap.size t0 c0 ∧ Blk W (w.heap.size + 1) t1 c1 := by
  rintro W rfl
  refine ⟨((Ext.refl w).alloc _ _).alloc _ _, by simp, (Blk.new w t0 c0).alloc _, ?_⟩
  have h := Blk.new (w.alloc (.cells c0 t0)) t1 c1
  rw [World.size_alloc] at h; exact h
theorem getR_any {w : World} {F : Nat → Prop} {T : RT} (hF : ∀ b, F b → b < w.heap.size) (hT : IsT w F T) (ok : OkR T) (hc : (entsT T).length ≤ 1000000) (k : ByteArray) :
    Calls Tryz.prog 42 #[rootV T, .string k] w (GetPost (getE (entsT T) k) w) := by
  match T, hT, ok, hc with
  | none, _, _, _ => exact get_nil w k
  | some ⟨h, t⟩, hT, ok, hc => exact get_any h w F t hF hT ok.1 ok.2.2 hc
theorem treeGet_any {w : World} {F : Nat → Prop} {T : RT} (hF : ∀ b, F b → b < w.heap.size) (hT : IsT w F T) (ok : OkR T) (hc : (entsT T).length ≤ 1000000) (k : ByteArray) :
    Calls Tryz.prog 13 #[treeV T, .string k] w (GetPost (getE (entsT T) k) w) := by
  have hcw : ∀ W, Ext w W → Calls Tryz.prog 42 #[rootV T, .string k] W (GetPost (getE (entsT T) k) W) := fun W hW =>
    getR_any (fun b hb => Nat.lt_of_lt_of_le (hF b hb) hW.size) (hT.agree (hW.agree hF)) ok hc k
  generalize getE (entsT T) k = og at *
  have HW := Lib.hid hcw
  clear hF hT ok hcw
  go_enter Tryz.func13, Tryz.ntmps13
  go_wp2_with fail
  generalize hW0 : World.alloc _ _ = W0
  obtain ⟨hx0, hz0, -, hb1⟩ := two_blocks w _ _ _ _ W0 hW0
  have HZ := Lib.hid hz0
  have HX0 := Lib.hid hx0
  clear hW0 hz0
  refine (HW.out W0 hx0).mono ?_
  rintro e w1 ⟨sl, so, rfl, hx1, hrv⟩
  have hb := hb1.ext hx1
  obtain ⟨c0, c1, c2, c3, c4, c5⟩ := hb.c6
  have f2 := hb.frozen
  have HX1 := Lib.hid hx1
  have HRV := Lib.hid hrv
  clear hb hb1 hx1 hrv hx0
  go_wp2_with fail
  refine bodyPost_ret (v := .tuple #[aggV (og.getD zeroV) sl so, .bool og.isSome]) (by simp [results, Tryz.results13, go_sem, c0, c1, c2, c3, c4, c5]) rfl ?_
  exact getPost_end (HX0.out.trans HX1.out) (b := w.heap.size + 1) (lo := W0.heap.size) (by omega) (by rw [HZ.out]; omega) HRV.out
theorem OE.append {w w' : World} {base : Nat} {s s' : Sl} {xs ys : List LE} {F : Nat → Prop} (ho : OE w base s xs) (hv : Vals w F ys) (hF : ∀ b, F b → base ≤ b ∧ b < w.heap.size ∧ s.row ≠ some b) (hf : (xs.length + ys.length) * 104 ≤ 140737488355328)
    (hown : w'.ownsRow base 64 7 (.slice s'.a (xs.length + ys.length) s'.c) (xs.length + ys.length) (flatE xs ++ flatE ys)) (hwr : Wr w w' s.row) (hs' : s'.row = s.row ∨ ∃ b, s'.row = some b ∧ w.heap.size ≤ b) : OE w' base s' (xs ++ ys) := by
  have hnew : ∀ b, b < w.heap.size → s.row ≠ some b → s'.row ≠ some b := fun b hb hn he => by
    rcases hs' with h | ⟨g, h, hg⟩
    · exact hn (h ▸ he)
    · rw [h] at he; simp at he; omega
  have hag : Agree (fun b => (base ≤ b ∧ b < w.heap.size) ∧ s.row ≠ some b) w w' := hwr.agree (fun i hi => hi.1.2) (fun k hk h => h.2 hk)
  refine ⟨by rw [List.length_append, flatE_app]; exact hown, fun x hx => ?_, by rw [List.length_append]; exact hf⟩
  have hup : ∀ i, ((base ≤ i ∧ i < w.heap.size) ∧ s.row ≠ some i) → (base ≤ i ∧ i < w'.heap.size) ∧ s'.row ≠ some i := fun i hi => ⟨⟨hi.1.1, Nat.lt_of_lt_of_le hi.1.2 hwr.grown.size⟩, hnew i hi.1.2 hi.2⟩
  rcases List.mem_append.1 hx with hx | hx
  · exact ⟨((ho.vals x hx).1.agree hag).mono hup, (ho.vals x hx).2⟩
  · exact ⟨(((hv x hx).1.mono fun i hi => ⟨⟨(hF i hi).1, (hF i hi).2.1⟩, (hF i hi).2.2⟩).agree hag).mono hup, (hv x hx).2⟩
theorem EntriesPost.base {es : List Ent} {w : World} {e : Ending} {w' : World} (h : EntriesPost es w e w') : ∃ (s : Sl) (ys : List LE), e = .returned (.slice s.a ys.length s.c) ∧ ys.map LE.ent = es ∧ OE w' w.heap.size s ys ∧ Ext w w' := h
theorem kids_nil (w : World) : Calls Tryz.prog 70 #[.pointer none] w fun e w' => e = .returned (.slice none 0 0) ∧ w = w' := by
  go_enter Tryz.func70, Tryz.ntmps70
  go_wp2_with fail
  go_ret
  exact ⟨rfl, rfl⟩
theorem countR_any {w : World} {F : Nat → Prop} {T : RT} (hT : IsT w F T) : Calls Tryz.prog 46 #[rootV T] w fun e w' => e = .returned (.int .i64 (entsT T).length) ∧ w = w' := by
  match T, hT with
  | none, _ => exact count_nil w
  | some ⟨h, t⟩, hT => exact count_any hT
theorem treeLen_any {w : World} {F : Nat → Prop} {T : RT} (hF : ∀ b, F b → b < w.heap.size) (hT : IsT w F T) : Calls Tryz.prog 19 #[treeV T] w fun e w' => e = .returned (.int .i64 (entsT T).length) ∧ Ext w w' := by
  have hx : Ext w (w.alloc (.cells #[rootV T] 25)) := (Ext.refl w).alloc _ _
  have hc := countR_any (hT.agree (hx.agree hF))
  clear hF hT
  go_enter Tryz.func19, Tryz.ntmps19
  go_wp2_with fail
  refine hc.mono ?_
  rintro e w' ⟨rfl, rfl⟩
  go_wp2_with fail
  go_ret
  exact ⟨rfl, hx⟩
theorem treeRoot_any (w : World) (v : Value) : Calls Tryz.prog 122 #[.agg #[v]] w fun e w' => e = .returned v ∧ Ext w w' := by
  go_enter Tryz.func122, Tryz.ntmps122
  go_wp2_with fail
  go_ret
  exact ⟨rfl, (Ext.refl w).alloc _ _⟩
section
variable {P : Program} (w : World)
theorem step_append_x {ops : Array Oper} {o : Oper} {a : Act} {K : Act → World → Prop} {Q : Exit → Act → World → Prop} {E : Prop} (hgd : o.guard = none) (s' x : Operand) (t : TypeId)
    (ho : o.op = .call { callee := .builtin .append, args := #[s', x], argTypes := #[t, t] })
    (base : Nat) (e : TypeId) (i : TypeInfo) (z : Value) (size bytes : Nat) (ht : P.underlying t = some (.slice e)) (hi : P.info? e = some i) (hz : i.zero = some z)
    (hsize : i.size = size) (hby : i.bytes = bytes) (hzs : z.cells.size = size) (hsz : 0 < size)
    (s : Sl) (n : Nat) (xs : List Value) (hs : a.eval s' = .slice s.a n s.c) (hown : w.ownsRow base e size (.slice s.a n s.c) n xs)
    (F : Nat → Prop) (sx : Sl) (m : Nat) (news : List Value) (hx : a.eval x = .slice sx.a m sx.c) (hsrc : Rd w F size sx m news) (h1 : ∀ u ∈ news, u.oneCell' = true)
    (h63 : n + m ≤ maxLen) (hbytes : (n + m) * bytes ≤ 140737488355328) (hbase : base ≤ w.heap.size)
    (h : ∀ (s' : Sl) (w' : World), w'.ownsRow base e size (.slice s'.a (n + m) s'.c) (n + m) (xs ++ news) → Wr w w' s.row → (s'.a = s.a ∨ s'.a = some ⟨w.heap.size, 0, none⟩ ∧ Wr w w' none) → K (a.put o.dst (.slice s'.a (n + m) s'.c)) w') :
    if Region.wanted o (yielded ops a.tmps) = true then Oper.wp P o a w K Q else E := by
  have hw : Region.wanted o (yielded ops a.tmps) = true := by simp [Region.wanted, hgd]
  rw [if_pos hw]
  exact wp_append_x w s' x t ho base e i z size bytes ht hi hz hsize hby hzs hsz s n xs hs hown F sx m news hx hsrc h1 h63 hbytes hbase h
theorem Rd.block {w : World} {g : Nat} {t : TypeId} {cs : List Value} {size n : Nat} (hb : Blk w g t cs.toArray) (hm : n ≤ maxLen) (hl : cs.length = n * size) : Rd w (fun b => b = g) size ⟨some ⟨g, 0, none⟩, n⟩ n cs :=
  ⟨g, 0, .some _ _ _ _ (Nat.le_refl _) hm rfl, hl, fun j u hj => by rw [Nat.zero_add, hb.cell]; simpa using hj⟩
end
def BuildPost (es : List Ent) (w : World) (e : Ending) (w' : World) : Prop :=
  ∃ T, e = .returned (treeV T) ∧ BuiltR es T ∧ IsT w' (In w.heap.size w'.heap.size) T ∧ Ext w w'
theorem rootV_ptr (T : RT) : ∃ p, rootV T = .pointer p := by
  match T with
  | none => exact ⟨_, rfl⟩
  | some ⟨h, t⟩ => exact ⟨_, rfl⟩
theorem ES.ext {w w' : World} {s : Sl} {xs : List LE} (h : ES w (Lt w.heap.size) s xs) (he : Ext w w') : ES w' (Lt w'.heap.size) s xs := (h.agree (he.agree fun _ h => h)).mono fun _ hi => Nat.lt_of_lt_of_le hi he.size
theorem build_big {w : World} {s : Sl} {xs : List LE} (hs : ES w (Lt w.heap.size) s xs) (hl : xs.length ≤ 500000) : Calls Tryz.prog 24 #[.slice s.a xs.length s.c] w (BuildPost (xs.map LE.ent) w) := by
  have HS := Lib.hid hs
  clear hs
  go_enter Tryz.func24, Tryz.ntmps24
  go_wp2_with fail
  generalize hW0 : World.alloc (World.alloc _ _) _ = W0
  obtain ⟨hxx, hzz, hb0, hb1⟩ := two_blocks w _ _ _ _ W0 hW0
  clear hW0
  go_loopw [8] (fun i wr => ∃ (j : Nat) (T : RT) (p : Option Addr), j ≤ xs.length ∧ i = .int .i64 j ∧ Ext w wr ∧ Blk wr w.heap.size 25 #[.pointer none] ∧ Blk wr (w.heap.size + 1) 25 #[.pointer p] ∧ Hid (rootV T = .pointer p) ∧ BuiltR ((xs.take j).map LE.ent) T ∧ IsT wr (In (w.heap.size + 2) wr.heap.size) T)
    (fun i _ => xs.length - (intOf i).toNat)
  case atStart => exact ⟨0, none, none, Nat.zero_le _, rfl, hxx, hb0, hb1, Lib.hid rfl, .nil, trivial⟩
  case round =>
    obtain ⟨j, T, p, hj, rfl, hx, hR, hS, HP, hB, hT⟩ := hrel
    clear hxx hzz hb0 hb1
    have HX := Lib.hid hx
    have HR := Lib.hid hR
    have HB := Lib.hid hB
    have HT := Lib.hid hT
    have HSS := Lib.hid hS
    have c0 : wr.cell? ⟨w.heap.size + 1, 0, none⟩ = some (.pointer p) := hS.cell 0
    have fS := hS.frozen
    have lS := hS.lt
    by_cases hlt : j < xs.length
    · obtain ⟨x, hxj⟩ : ∃ x, xs[j]? = some x := ⟨_, List.getElem?_eq_getElem hlt⟩
      obtain ⟨b, o, ha, hbl, hlc, hcm, k0, hv, hrv, hkm⟩ := (HS.out.ext hx).at hxj
      obtain ⟨v0, v1, v2, v3, v4, v5⟩ := hv.m
      have hil' : (j : Int) < (xs.length : Int) := by omega
      have hok := hB.both
      have hpt : ∀ W, Ext wr W → Calls Tryz.prog 40 #[.agg #[.pointer p], .string x.k, aggV x.v x.sl x.so] W (PutPost (In (w.heap.size + 2) wr.heap.size) T x.k x.v W) := fun W hW => by
        rw [← HP.out]
        exact put_any (fun b hb => Nat.lt_of_lt_of_le hb.2 hW.size) (hT.agree (hW.agree fun b hb => hb.2)) hok.1 (by
          rw [hok.2]
          have := putAll_len ((xs.take j).map LE.ent) []
          simp only [List.length_map, List.length_take, List.length_nil] at this
          omega) hkm ((hrv.agree (hW.agree fun b hb => hb)).mono fun b hb => Nat.lt_of_lt_of_le hb hW.size)
      obtain ⟨sa, sc⟩ := s
      dsimp only at ha
      subst ha
      have HPT := Lib.hid hpt
      have HXJ := Lib.hid hxj
      clear hx hR hS hB hT hxj hv hrv hok hpt
      go_wp2_with fail
      refine (HPT.out _ ((Ext.refl wr).alloc _ _)).mono ?_
      rintro e w2 ⟨T2, rfl, hp2, hT2, hx2⟩
      obtain ⟨p2, hq2⟩ := rootV_ptr T2
      have HQ2 := Lib.hid hq2
      dsimp only [treeV]
      rw [hq2]
      clear hq2
      have hX2 : Ext wr w2 := ((Ext.refl wr).alloc _ _).trans hx2
      have d0 : w2.cell? ⟨w.heap.size + 1, 0, none⟩ = some (.pointer p) := (hX2.cell lS).trans c0
      have f2 : ∀ o, w2.frozen? ⟨w.heap.size + 1, o, none⟩ = false := fun o => (hX2.frozen lS).trans (fS o)
      have hE := (HX.out.trans hX2).setCell (p := ⟨w.heap.size + 1, 0, none⟩) (show w.heap.size ≤ w.heap.size + 1 by omega) (.pointer p2)
      have hR2 := (HR.out.ext hX2).far (p := ⟨w.heap.size + 1, 0, none⟩) (by simp) (.pointer p2)
      have hS2 : Blk (w2.setCell ⟨w.heap.size + 1, 0, none⟩ (.pointer p2)) (w.heap.size + 1) 25 #[.pointer p2] := (HSS.out.ext hX2).set_ 0 _
      have hT3 : IsT (w2.setCell ⟨w.heap.size + 1, 0, none⟩ (.pointer p2)) (In (w.heap.size + 2) (w2.setCell ⟨w.heap.size + 1, 0, none⟩ (.pointer p2)).heap.size) T2 := by
        have hs2 := hX2.size
        have hlt := lS
        have hm : ∀ i, Up (In (w.heap.size + 2) wr.heap.size) (wr.alloc (.cells #[.string x.k, .int .i64 x.v.kind, .bool x.v.b, .int .i64 x.v.i, .string x.v.t, .slice x.sl.a x.v.l.length x.sl.c, .slice x.so.a x.v.ok.length x.so.c] 64)) w2 i → In (w.heap.size + 2) w2.heap.size i := fun i hi => by
          rcases hi with hi | hi
          · exact ⟨hi.1, Nat.lt_of_lt_of_le hi.2 hs2⟩
          · have := hi.1
            simp at this
            exact ⟨by omega, hi.2⟩
        refine ((hT2.mono hm).agree (Agree.setCell w2 ⟨w.heap.size + 1, 0, none⟩ _ (fun h => by have h1 : w.heap.size + 2 ≤ w.heap.size + 1 := h.1; omega))).mono fun i hi => ⟨hi.1, by simpa using hi.2⟩
      have HB2 := Lib.hid (BuiltR.snoc HB.out hp2)
      have H1 := Lib.hid hE
      have H2 := Lib.hid hR2
      have H3 := Lib.hid hS2
      have H4 := Lib.hid hT3
      clear hp2 hT2 hx2 hX2 hE hR2 hS2 hT3
      go_wp2_with fail
      go_roundw
      case rel => exact ⟨j + 1, T2, p2, hlt, by go_num, H1.out, H2.out, H3.out, HQ2, by rw [List.take_add_one, HXJ.out, List.map_append]; exact HB2.out, H4.out⟩
      case measure => simp [intOf]; omega
    · obtain rfl : j = xs.length := by omega
      have r0 : wr.cell? ⟨w.heap.size, 0, none⟩ = some (.pointer none) := hR.cell 0
      have fR := hR.frozen
      clear hx hR hS hB hT
      go_wp2_with fail
      have q0 : (wr.setCell ⟨w.heap.size, 0, none⟩ (.pointer p)).cell? ⟨w.heap.size, 0, none⟩ = some (.pointer p) := World.cell?_setCell_same wr _ _ r0
      refine bodyPost_ret (v := .agg #[.pointer p]) (by simp [results, Tryz.results24, go_sem, q0]) rfl ?_
      refine ⟨T, by rw [treeV, HP.out], by have := HB.out; rwa [List.take_length] at this, ?_, HX.out.setCell (p := ⟨w.heap.size, 0, none⟩) (Nat.le_refl _) _⟩
      exact (HT.out.agree (Agree.setCell wr ⟨w.heap.size, 0, none⟩ _ (fun h => by have h1 : w.heap.size + 2 ≤ w.heap.size := h.1; omega))).mono fun i hi => ⟨by have := hi.1; omega, by simpa using hi.2⟩
theorem build_any {w : World} {s : Sl} {xs : List LE} (hs : ES w (Lt w.heap.size) s xs) (hl : xs.length ≤ 100000) : Calls Tryz.prog 24 #[.slice s.a xs.length s.c] w (BuildPost (xs.map LE.ent) w) := build_big hs (by omega)
end Go.Proofs.YtechahocffcbpaaGreatDoor
namespace Go.Proofs.YtechahocffcbpaaGreatDoor
open Go.RowKit Go.Maps
set_option linter.unusedVariables false
set_option linter.unusedSimpArgs false
section
variable {α : Type}
abbrev AL (α : Type) := List (ByteArray × α)
def SortedA (C : AL α) : Prop := C.Pairwise fun a b => klt a.1 b.1 = true
def getA : AL α → ByteArray → Option α
  | [], _ => none
  | e :: r, k => if e.1 = k then some e.2 else getA r k
def putA : AL α → ByteArray → α → AL α
  | [], k, v => [(k, v)]
  | e :: r, k, v => if klt e.1 k then e :: putA r k v else if e.1 = k then (k, v) :: r else (k, v) :: e :: r
def delA (C : AL α) (k : ByteArray) : AL α := C.filter fun p => !decide (p.1 = k)
theorem getA_none {C : AL α} {k : ByteArray} (h : ∀ e ∈ C, e.1 ≠ k) : getA C k = none := by
  induction C with
  | nil => rfl
  | cons e r ih => rw [getA, if_neg (h e (List.mem_cons_self ..)), ih fun f hf => h f (List.mem_cons_of_mem _ hf)]
theorem getA_some {C : AL α} {k : ByteArray} {s : α} (h : getA C k = some s) : (k, s) ∈ C := by
  induction C with
  | nil => cases h
  | cons e r ih =>
    rw [getA] at h
    by_cases he : e.1 = k
    · rw [if_pos he] at h
      injection h with h
      subst he h
      exact List.mem_cons_self ..
    · rw [if_neg he] at h
      exact List.mem_cons_of_mem _ (ih h)
theorem sortedA_far {e : ByteArray × α} {r : AL α} (h : SortedA (e :: r)) : SortedA r ∧ ∀ f ∈ r, klt e.1 f.1 = true ∧ f.1 ≠ e.1 := by
  obtain ⟨h1, h2⟩ := List.pairwise_cons.1 h
  exact ⟨h2, fun f hf => ⟨h1 f hf, fun e2 => by have := h1 f hf; rw [e2, klt_irrefl] at this; cases this⟩⟩
theorem getA_put : ∀ (C : AL α) (k : ByteArray) (v : α) (x : ByteArray), getA (putA C k v) x = if x = k then some v else getA C x
  | [], k, v, x => by
    simp only [putA, getA]
    by_cases h : x = k
    · rw [if_pos h.symm, if_pos h]
    · rw [if_neg (fun e => h e.symm), if_neg h]
  | e :: es, k, v, x => by
    by_cases h1 : klt e.1 k = true
    · rw [putA, if_pos h1, getA, getA, getA_put es k v x]
      by_cases h : x = k
      · have : e.1 ≠ x := fun h2 => by rw [h2, h, klt_irrefl] at h1; cases h1
        rw [if_neg this, if_pos h, if_pos h]
      · rw [if_neg h, if_neg h]
    · rw [putA, if_neg h1]
      by_cases h2 : e.1 = k
      · rw [if_pos h2, getA, getA, h2]
        by_cases h : x = k
        · rw [if_pos h.symm, if_pos h]
        · rw [if_neg (fun e => h e.symm), if_neg h, if_neg (fun e => h e.symm)]
      · rw [if_neg h2, getA]
        by_cases h : x = k
        · rw [if_pos h.symm, if_pos h]
        · rw [if_neg (fun e => h e.symm), if_neg h]
theorem getA_del (k x : ByteArray) : ∀ (C : AL α), getA (delA C k) x = if x = k then none else getA C x
  | [] => by simp [delA, getA]
  | e :: r => by
    have ih := getA_del k x r
    unfold delA at ih ⊢
    by_cases h : e.1 = k
    · rw [List.filter_cons, if_neg (by simp [h]), ih, getA]
      by_cases hx : x = k
      · rw [if_pos hx, if_pos hx]
      · rw [if_neg hx, if_neg hx, if_neg (fun e2 => hx (e2.symm.trans h))]
    · rw [List.filter_cons, if_pos (by simp [h]), getA, ih, getA]
      by_cases hx : x = k
      · rw [if_pos hx, if_pos hx, if_neg (fun e2 => h (e2.trans hx))]
      · rw [if_neg hx, if_neg hx]
theorem mem_putA {C : AL α} {k : ByteArray} {v : α} {x : ByteArray × α} (h : x ∈ putA C k v) : x = (k, v) ∨ x ∈ C := by
  induction C with
  | nil => exact .inl (by simpa [putA] using h)
  | cons e r ih =>
    rw [putA] at h
    split at h
    · rcases List.mem_cons.1 h with rfl | h
      · exact .inr (List.mem_cons_self ..)
      · exact (ih h).imp id (List.mem_cons_of_mem _)
    · split at h
      · rcases List.mem_cons.1 h with rfl | h
        · exact .inl rfl
        · exact .inr (List.mem_cons_of_mem _ h)
      · exact List.mem_cons.1 h
theorem putA_sorted {C : AL α} (h : SortedA C) (k : ByteArray) (v : α) : SortedA (putA C k v) := by
  induction C with
  | nil => exact List.pairwise_cons.2 ⟨fun _ hx => (by cases hx), List.Pairwise.nil⟩
  | cons e r ih =>
    obtain ⟨h1, h2⟩ := List.pairwise_cons.1 h
    rw [putA]
    split
    · rename_i hk
      refine List.pairwise_cons.2 ⟨fun x hx => ?_, ih h2⟩
      rcases mem_putA hx with rfl | hx
      · exact hk
      · exact h1 x hx
    · rename_i hk
      split
      · rename_i he
        exact List.pairwise_cons.2 ⟨fun x hx => by rw [← he]; exact h1 x hx, h2⟩
      · rename_i he
        have hlt : klt k e.1 = true := klt_of_not (by simpa using hk) he
        refine List.pairwise_cons.2 ⟨fun x hx => ?_, h⟩
        rcases List.mem_cons.1 hx with rfl | hx
        · exact hlt
        · exact klt_trans hlt (h1 x hx)
theorem delA_sorted {C : AL α} (h : SortedA C) (k : ByteArray) : SortedA (delA C k) := h.sublist (List.filter_sublist ..)
theorem sortedA_ext : ∀ {a b : AL α}, SortedA a → SortedA b → (∀ k, getA a k = getA b k) → a = b
  | [], [], _, _, _ => rfl
  | [], f :: b, _, _, h => by have := h f.1; simp [getA] at this
  | e :: a, [], _, _, h => by have := h e.1; simp [getA] at this
  | e :: a, f :: b, ha, hb, h => by
    obtain ⟨a2, a1⟩ := sortedA_far ha
    obtain ⟨b2, b1⟩ := sortedA_far hb
    have hk : e.1 = f.1 := by
      refine klt_total ?_ ?_
      · cases hc : klt e.1 f.1 with
        | false => rfl
        | true =>
          have h1 := h e.1
          rw [getA, if_pos rfl, getA_none (C := f :: b) (fun g hg e2 => by
            rcases List.mem_cons.1 hg with rfl | hg
            · rw [e2, klt_irrefl] at hc; cases hc
            · have := klt_trans hc (b1 g hg).1; rw [e2, klt_irrefl] at this; cases this)] at h1
          cases h1
      · cases hc : klt f.1 e.1 with
        | false => rfl
        | true =>
          have h1 := h f.1
          rw [getA_none (C := e :: a) (k := f.1) (fun g hg e2 => by
            rcases List.mem_cons.1 hg with rfl | hg
            · rw [e2, klt_irrefl] at hc; cases hc
            · have := klt_trans hc (a1 g hg).1; rw [e2, klt_irrefl] at this; cases this), getA, if_pos rfl] at h1
          cases h1
    have h0 := h e.1
    rw [getA, if_pos rfl, getA, if_pos hk.symm] at h0
    injection h0 with h0
    have he : e = f := Prod.ext hk h0
    subst he
    rw [sortedA_ext a2 b2 fun k => ?_]
    by_cases hx : e.1 = k
    · rw [getA_none fun g hg e2 => (a1 g hg).2 (e2.trans hx.symm), getA_none fun g hg e2 => (b1 g hg).2 (e2.trans hx.symm)]
    · have := h k
      rwa [getA, if_neg hx, getA, if_neg hx] at this
theorem putA_undo {C : AL α} (h : SortedA C) {k : ByteArray} {s old : α} (ho : getA C k = some old) : putA (putA C k s) k old = C :=
  sortedA_ext (putA_sorted (putA_sorted h k s) k old) h fun x => by
    rw [getA_put, getA_put]
    by_cases hx : x = k
    · rw [if_pos hx, hx, ho]
    · rw [if_neg hx, if_neg hx]
theorem delA_undo {C : AL α} (h : SortedA C) {k : ByteArray} {s : α} (ho : getA C k = none) : delA (putA C k s) k = C :=
  sortedA_ext (delA_sorted (putA_sorted h k s) k) h fun x => by
    rw [getA_del, getA_put]
    by_cases hx : x = k
    · rw [if_pos hx, hx, ho]
    · rw [if_neg hx, if_neg hx]
theorem putA_len {C : AL α} {k : ByteArray} {v : α} : (putA C k v).length ≤ C.length + 1 := by
  induction C with
  | nil => simp [putA]
  | cons e r ih =>
    rw [putA]
    split
    · simp only [List.length_cons]; omega
    · split <;> simp only [List.length_cons] <;> omega
end
section
variable {α : Type} (f : α → Value)
abbrev keyS (k : ByteArray) : Lit := .string k.data.toList
abbrev entA (p : ByteArray × α) : Lit × DataW Value := (keyS p.1, .held (f p.2))
def mapA (C : AL α) : DataW Value := .map (C.map (entA f))
def heldR (v : Value) : Option (DataW Value × List MemPlace) := some (.held v, [])
theorem heldR_inv {v u : Value} {ps : List MemPlace} (h : heldR v = some (.held u, ps)) : v = u := by
  injection h with h; injection h with h; injection h
theorem before_eq : ∀ a b : List UInt8, bytesBefore a b = Op.bytesLess a b
  | [], [] => rfl
  | [], _ :: _ => rfl
  | _ :: _, [] => rfl
  | a :: x, b :: y => by rw [bytesBefore, Op.bytesLess, before_eq x y]
theorem before_keyS (a b : ByteArray) : (keyS a).before (keyS b) = klt a b := by
  show bytesBefore _ _ = Op.bytesLess _ _
  rw [before_eq, ByteArray.toList_eq, ByteArray.toList_eq]
theorem same_keyS (a b : ByteArray) : (keyS a).sameKey (keyS b) = decide (a = b) := by
  show (a.data.toList == b.data.toList) = _
  rw [← ByteArray.toList_eq, ← ByteArray.toList_eq]
  exact beq_toList a b
theorem has_mapA (C : AL α) (k : ByteArray) : Maps.has (mapA f C) (keyS k) = (getA C k).isSome := by
  show List.any (List.map _ C) _ = _
  induction C with
  | nil => rfl
  | cons e r ih =>
    rw [List.map_cons, List.any_cons, ih, getA]
    show ((keyS e.1).sameKey (keyS k) || _) = _
    rw [same_keyS]
    by_cases h : e.1 = k
    · rw [if_pos h, decide_eq_true h]; rfl
    · rw [if_neg h, decide_eq_false h]; rfl
theorem at_mapA (C : AL α) (k : ByteArray) (zd : DataW Value) : (mapA f C).atKey (keyS k) zd = match getA C k with
    | some s => .held (f s)
    | none => zd := by
  unfold mapA
  simp only [DataW.atKey]
  induction C with
  | nil => rfl
  | cons e r ih =>
    rw [List.map_cons, List.find?_cons, getA]
    by_cases h : e.1 = k
    · rw [if_pos h, show (keyS e.1).sameKey (keyS k) = true by rw [same_keyS, decide_eq_true h]]
    · rw [if_neg h, show (keyS e.1).sameKey (keyS k) = false by rw [same_keyS, decide_eq_false h]]
      exact ih
theorem size_mapA (C : AL α) : Maps.size (mapA f C) = C.length := by
  show List.length (List.map _ C) = _
  rw [List.length_map]
theorem filter_mapA (k : ByteArray) : ∀ C : AL α, (C.map (entA f)).filter (fun p => !p.1.sameKey (keyS k)) = (delA C k).map (entA f)
  | [] => rfl
  | e :: r => by
    have ih := filter_mapA k r
    unfold delA at ih ⊢
    rw [List.map_cons, List.filter_cons, List.filter_cons, ih]
    show (if (!(keyS e.1).sameKey (keyS k)) = true then _ else _) = _
    rw [same_keyS]
    split <;> rfl
theorem del_mapA (C : AL α) (k : ByteArray) : (mapA f C).del (keyS k) = mapA f (delA C k) := by
  show DataW.map (List.filter _ (List.map _ C)) = _
  rw [filter_mapA]; rfl
theorem insert_mapA (k : ByteArray) (s : α) : ∀ C : AL α, SortedA C → DataW.insert (keyS k, (DataW.held (f s) : DataW Value)) ((delA C k).map (entA f)) = (putA C k s).map (entA f)
  | [], _ => rfl
  | e :: r, h => by
    obtain ⟨h2, h1⟩ := sortedA_far h
    have ih := insert_mapA k s r h2
    have hdel : ∀ x : ByteArray, (∀ g ∈ r, g.1 ≠ x) → delA r x = r := fun x hx => List.filter_eq_self.2 fun g hg => by simp [hx g hg]
    have hstep : ∀ (g : ByteArray × α) (t : AL α), klt k g.1 = true → DataW.insert (keyS k, (DataW.held (f s) : DataW Value)) ((g :: t).map (entA f)) = (((k, s) :: g :: t).map (entA f)) := fun g t hg => by
      rw [List.map_cons, DataW.insert, if_pos (by show (keyS k).before (keyS g.1) = true; rw [before_keyS, hg])]
      rfl
    rw [putA]
    by_cases hk : klt e.1 k = true
    · have hne : e.1 ≠ k := fun e2 => by rw [e2, klt_irrefl] at hk; cases hk
      rw [if_pos hk, show delA (e :: r) k = e :: delA r k by unfold delA; rw [List.filter_cons, if_pos (by simp [hne])], List.map_cons, DataW.insert, if_neg (by show ¬ (keyS k).before (keyS e.1) = true; rw [before_keyS, klt_asymm hk]; simp), ih]
      rfl
    · rw [if_neg hk]
      by_cases he : e.1 = k
      · rw [if_pos he, show delA (e :: r) k = r by
          rw [← he]
          show List.filter _ _ = _
          rw [List.filter_cons, if_neg (by simp)]
          exact hdel e.1 fun g hg => (h1 g hg).2]
        cases r with
        | nil => rfl
        | cons g t => exact hstep g t (by rw [← he]; exact (h1 g (List.mem_cons_self ..)).1)
      · have hlt : klt k e.1 = true := klt_of_not (by simpa using hk) he
        rw [if_neg he, show delA (e :: r) k = e :: r by
          show List.filter _ _ = _
          rw [List.filter_cons, if_pos (by simp [he])]
          exact congrArg (e :: ·) (hdel k fun g hg e2 => by have := klt_trans hlt (h1 g hg).1; rw [e2, klt_irrefl] at this; cases this)]
        exact hstep e r hlt
theorem put_mapA {C : AL α} (h : SortedA C) (k : ByteArray) (s : α) : (mapA f C).put (keyS k) (.held (f s)) = mapA f (putA C k s) := by
  show DataW.map (DataW.insert _ (List.filter _ (List.map _ C))) = _
  rw [filter_mapA, insert_mapA f k s C h]; rfl
end
end Go.Proofs.YtechahocffcbpaaGreatDoor
namespace Go.Proofs.YtechahocffcbpaaGreatDoor
open Go.RowKit
set_option linter.unusedVariables false
set_option linter.unusedSimpArgs false
abbrev Slots := AL (Option Val)
def nowE (B : List Ent) (C : Slots) (k : ByteArray) : Option Val := match getA C k with
  | some s => s
  | none => getE B k
theorem rise_ext : ∀ {a b : List ByteArray}, a.Pairwise (fun x y => klt x y = true) → b.Pairwise (fun x y => klt x y = true) → (∀ k, k ∈ a ↔ k ∈ b) → a = b
  | [], [], _, _, _ => rfl
  | [], y :: b, _, _, h => by have := (h y).2 (List.mem_cons_self ..); cases this
  | x :: a, [], _, _, h => by have := (h x).1 (List.mem_cons_self ..); cases this
  | x :: a, y :: b, ha, hb, h => by
    obtain ⟨a1, a2⟩ := List.pairwise_cons.1 ha
    obtain ⟨b1, b2⟩ := List.pairwise_cons.1 hb
    have hxy : x = y := by
      rcases List.mem_cons.1 ((h x).1 (List.mem_cons_self ..)) with e | e
      · exact e
      · rcases List.mem_cons.1 ((h y).2 (List.mem_cons_self ..)) with e2 | e2
        · exact e2.symm
        · have h1 := b1 x e
          have h2 := a1 y e2
          rw [klt_asymm h1] at h2; cases h2
    subst hxy
    rw [rise_ext a2 b2 fun k => ⟨fun hk => ?_, fun hk => ?_⟩]
    · rcases List.mem_cons.1 ((h k).1 (List.mem_cons_of_mem _ hk)) with e | e
      · have := a1 k hk; rw [e, klt_irrefl] at this; cases this
      · exact e
    · rcases List.mem_cons.1 ((h k).2 (List.mem_cons_of_mem _ hk)) with e | e
      · have := b1 k hk; rw [e, klt_irrefl] at this; cases this
      · exact e
theorem getE_mem {B : List Ent} (hs : Sorted B) {e : Ent} (h : e ∈ B) : getE B e.1 = some e.2 := by
  induction B with
  | nil => cases h
  | cons f r ih =>
    obtain ⟨h1, h2⟩ := List.pairwise_cons.1 hs
    rw [getE]
    rcases List.mem_cons.1 h with rfl | h
    · rw [if_pos rfl]
    · have := h1 _ h
      rw [if_neg (fun e2 => by rw [e2, klt_irrefl] at this; cases this), ih h2 h]
theorem mem_getE {B : List Ent} {k : ByteArray} {v : Val} (h : getE B k = some v) : (k, v) ∈ B := by
  induction B with
  | nil => cases h
  | cons e r ih =>
    rw [getE] at h
    by_cases he : e.1 = k
    · rw [if_pos he] at h
      injection h with h
      subst he h
      exact List.mem_cons_self ..
    · rw [if_neg he] at h
      exact List.mem_cons_of_mem _ (ih h)
structure SV where
  has : Bool
  v : Val
  sl : Sl
  so : Sl
abbrev SV.cells (s : SV) : Array Value := #[.bool s.has, .int .i64 s.v.kind, .bool s.v.b, .int .i64 s.v.i, .string s.v.t, .slice s.sl.a s.v.l.length s.sl.c, .slice s.so.a s.v.ok.length s.so.c]
abbrev SV.val (s : SV) : Value := .agg s.cells
def SV.opt (s : SV) : Option Val := if s.has then some s.v else none
def optA (C : AL SV) : Slots := C.map fun p => (p.1, p.2.opt)
theorem getA_opt (k : ByteArray) : ∀ C : AL SV, getA (optA C) k = (getA C k).map SV.opt
  | [] => rfl
  | e :: r => by
    have ih := getA_opt k r
    unfold optA at ih ⊢
    rw [List.map_cons, getA, getA, ih]
    split <;> rfl
structure UD where
  k : ByteArray
  old : Option SV
def undo1 (u : UD) (C : AL SV) : AL SV := match u.old with
  | some o => putA C u.k o
  | none => delA C u.k
theorem undo1_put {C : AL SV} (h : SortedA C) {k : ByteArray} (s : SV) : undo1 ⟨k, getA C k⟩ (putA C k s) = C := by
  unfold undo1
  cases ho : getA C k with
  | some o => exact putA_undo h ho
  | none => exact delA_undo h ho
theorem undo1_sorted {C : AL SV} (h : SortedA C) (u : UD) : SortedA (undo1 u C) := by
  unfold undo1
  split
  · exact putA_sorted h _ _
  · exact delA_sorted h _
def backA (us : List UD) (C : AL SV) (m : Nat) : AL SV := (us.drop m).foldr undo1 C
theorem backA_end (us : List UD) (C : AL SV) : backA us C us.length = C := by simp [backA]
theorem backA_step {us : List UD} {C : AL SV} {m : Nat} {u : UD} (h : us[m]? = some u) : backA us C m = undo1 u (backA us C (m + 1)) := by
  obtain ⟨hm, rfl⟩ := List.getElem?_eq_some_iff.1 h
  unfold backA
  rw [List.drop_eq_getElem_cons hm]
  rfl
structure Chain (us : List UD) (H : List (AL SV)) : Prop where
  len : H.length = us.length + 1
  step : ∀ i u, us[i]? = some u → ∃ (C : AL SV) (s : SV), H[i]? = some C ∧ SortedA C ∧ u.old = getA C u.k ∧ H[i + 1]? = some (putA C u.k s)
theorem Chain.nil (C : AL SV) : Chain [] [C] := ⟨rfl, fun i u h => by simp at h⟩
theorem Chain.snoc {us : List UD} {H : List (AL SV)} {C : AL SV} (h : Chain us (H ++ [C])) (hs : SortedA C) (k : ByteArray) (s : SV) : Chain (us ++ [⟨k, getA C k⟩]) (H ++ [C] ++ [putA C k s]) := by
  have hl := h.len
  rw [List.length_append, List.length_singleton] at hl
  refine ⟨by simp; omega, fun i u hi => ?_⟩
  rcases Nat.lt_trichotomy i us.length with hlt | heq | hgt
  · rw [List.getElem?_append_left hlt] at hi
    obtain ⟨C', s', h1, h2, h3, h4⟩ := h.step i u hi
    exact ⟨C', s', by rw [List.getElem?_append_left (by simp; omega)]; exact h1, h2, h3, by rw [List.getElem?_append_left (by simp; omega)]; exact h4⟩
  · subst heq
    rw [List.getElem?_append_right (Nat.le_refl _), Nat.sub_self] at hi
    injection hi with hi
    subst hi
    refine ⟨C, s, ?_, hs, rfl, ?_⟩
    · rw [List.getElem?_append_left (by simp; omega), List.getElem?_append_right (by omega), show us.length - H.length = 0 by omega]; rfl
    · rw [List.getElem?_append_right (by simp; omega), show us.length + 1 - (H ++ [C]).length = 0 by simp; omega]; rfl
  · rw [List.getElem?_eq_none (by simp; omega)] at hi
    cases hi
theorem Chain.back {us : List UD} {H : List (AL SV)} {C : AL SV} (h : Chain us H) (hC : H[us.length]? = some C) : ∀ d m, m + d = us.length → H[m]? = some (backA us C m)
  | 0, m, hm => by
    obtain rfl : m = us.length := by omega
    rw [backA_end]; exact hC
  | d + 1, m, hm => by
    have hlt : m < us.length := by omega
    have hu := List.getElem?_eq_getElem hlt
    obtain ⟨C', s, h1, h2, h3, h4⟩ := h.step m _ hu
    have ih := h.back hC d (m + 1) (by omega)
    rw [h4] at ih
    injection ih with ih
    rw [h1, backA_step hu, ← ih]
    congr 1
    have := undo1_put h2 (k := (us[m]'hlt).k) s
    rw [← h3] at this
    exact this.symm
theorem Chain.take {us : List UD} {H : List (AL SV)} (h : Chain us H) {m : Nat} (hm : m ≤ us.length) : Chain (us.take m) (H.take (m + 1)) := by
  refine ⟨by rw [List.length_take, List.length_take, h.len]; omega, fun i u hi => ?_⟩
  have him : i < m := by
    have := (List.getElem?_eq_some_iff.1 hi).1
    rw [List.length_take] at this; omega
  rw [List.getElem?_take_of_lt him] at hi
  obtain ⟨C, s, h1, h2, h3, h4⟩ := h.step i u hi
  exact ⟨C, s, by rw [List.getElem?_take_of_lt (by omega)]; exact h1, h2, h3, by rw [List.getElem?_take_of_lt (by omega)]; exact h4⟩
theorem backA_sorted {C : AL SV} (h : SortedA C) (us : List UD) (m : Nat) : SortedA (backA us C m) := by
  unfold backA
  induction us.drop m with
  | nil => exact h
  | cons u r ih => exact undo1_sorted ih u
section
variable {H : Type} {enc : TypeId × Value → H} {P : Program} {w : World} {held : Bool}
end
instance : Inhabited Val := ⟨.mk 0 false 0 ByteArray.empty [] [] []⟩
instance : Inhabited Sl := ⟨Sl.none⟩
section
variable {H : Type} {enc : TypeId × Value → H} {w : World} {held : Bool}
structure LA where
  kd : Int
  k : ByteArray
  v : Val
  sl : Sl
  so : Sl
instance : Inhabited LA := ⟨⟨0, ByteArray.empty, default, Sl.none, Sl.none⟩⟩
end
theorem Wr.cell0 {w w' w'' : World} {row : Option Nat} (h : Wr w' w'' row) (hx : Ext w w') {M : Nat} {o : Nat} (hn : row ≠ some M) (hl : M < w.heap.size) : w''.cell? ⟨M, o, none⟩ = w.cell? ⟨M, o, none⟩ ∧ M < w''.heap.size :=
  ⟨((h.agree (F := fun b => b = M) (fun i hi => by subst hi; exact Nat.lt_of_lt_of_le hl hx.size) (fun k hk e => hn (e ▸ hk))).cell rfl).trans (hx.cell hl), Nat.lt_of_lt_of_le hl (Nat.le_trans hx.size h.grown.size)⟩
section
variable {P : Program} {w : World}
end
section
variable {P : Program} {ops : Array Oper} {Q : Exit → Act → World → Prop} {md : Region.Mode} {S : World → Prop}
theorem held_on {i : Nat} {oi : Oper} {d : Option Tmp} {v : Value} {fuel : Nat} {listed : Array Bool} {a : Act} {w : World} (hi : ops[i]? = some oi) (hd : oi.dst = d)
    (hs : Region.noSelect ops = true) (hf : Region.free md ops listed i = true) (hr : (Region.ready md ops listed).contains i = true)
    (hQ : ∀ c a w, Q (.panic c) (a.put d v) w → Q (.panic c) a w) (hw : Region.wanted oi (yielded ops a.tmps) = true) (hS : S w) (hy : ∀ w, S w → (execOp a.eval oi).run P w = .ok (.value v) w)
    (h : wpAnyH P md ops Q S fuel (listed.setIfInBounds i true) (a.put d v) w) : wpAnyH P md ops Q S (fuel + 1) listed a w := by
  subst hd
  exact wpAnyH_take hi hs hf hr hQ (.inl ⟨hw, hy⟩) hS h
theorem held_call {i : Nat} {oi : Oper} {fuel : Nat} {listed : Array Bool} {a : Act} {w : World} (hr : Region.ready md ops listed = [i]) (hi : ops[i]? = some oi) (hw : Region.wanted oi (yielded ops a.tmps) = true)
    (h : ∀ K' : Act → World → Prop, Shut (∀ a w, S w → (S w → wpAnyH P md ops Q S fuel (listed.setIfInBounds i true) a w) → K' a w) → Oper.wp P oi a w K' Q) : wpAnyH P md ops Q S (fuel + 1) listed a w :=
  wpAnyH_ready hr (by simp) (AllReadyH.cons hi (fun K' hK => by rw [if_pos hw]; exact h K' hK) AllReadyH.nil)
end
section
variable {P : Program} {ops : Array Oper} {Q : Exit → Act → World → Prop} {md : Region.Mode} {S C : World → Prop}
theorem heldT (i : Nat) (d : Option Tmp) {v : Value} {oi : Oper} {fuel : Nat} {listed l' : Array Bool} {a a' : Act} {w : World} (hC : Hid (∀ W, S W → C W)) (hS : S w) (h : wpAnyH P md ops Q S fuel l' a' w)
    (hi : ops[i]? = some oi := by rfl) (hd : oi.dst = d := by rfl) (hs : Region.noSelect ops = true := by kernel_rfl) (hf : Region.free md ops listed i = true := by kernel_rfl) (hr : (Region.ready md ops listed).contains i = true := by kernel_rfl)
    (hy : ∀ w, C w → (execOp a.eval oi).run P w = .ok (.value v) w := by (intro w hSc; go_simp; first | done | with_reducible rfl))
    (hQ : ∀ c a w, Q (.panic c) (a.put d v) w → Q (.panic c) a w := by exact fun _ _ _ h => h) (hw : Region.wanted oi (yielded ops a.tmps) = true := by rfl)
    (hl : listed.setIfInBounds i true = l' := by first | (simp only [List.setIfInBounds_toArray, List.set_cons_zero, List.set_cons_succ]; rfl) | rfl)
    (hp : a.put d v = a' := by first | (simp only [Act.put, List.setIfInBounds_toArray, List.set_cons_zero, List.set_cons_succ]; rfl) | rfl) : wpAnyH P md ops Q S (fuel + 1) listed a w := by
  subst hl hp
  exact held_on hi hd hs hf hr hQ hw hS (fun w hw => hy w (hC.out w hw)) h
end
theorem own_base {w : World} {A B e size n : Nat} {v : Value} {xs : List Value} (h : w.ownsRow B e size v n xs) (hAB : A ≤ B) : w.ownsRow A e size v n xs := by
  refine ⟨h.1, ?_⟩
  rcases h.2 with hl | ⟨g, cap, cur, hv, hg, r⟩
  · exact .inl hl
  · exact .inr ⟨g, cap, cur, hv, Nat.le_trans hAB hg, r⟩
theorem OE.base {w : World} {A B : Nat} {s : Sl} {xs : List LE} (h : OE w B s xs) (hAB : A ≤ B) : OE w A s xs := ⟨own_base h.own hAB, h.vals.mono fun i hi => ⟨⟨Nat.le_trans hAB hi.1.1, hi.1.2⟩, hi.2⟩, h.few⟩
theorem PutR.mono {A B : Nat} (hAB : A ≤ B) {k : ByteArray} {v : Val} {T T' : RT} (h : PutR B k v T T') : PutR A k v T T' := by
  cases h with
  | one hw => exact .one (hw.mono hAB)
  | two hw hc hb => exact .two (hw.mono hAB) hc (Nat.le_trans hAB hb)
section
variable {H : Nat → Prop} {w : World} {M : Nat} {T : RT} {a : LA}
theorem NH.st {H : Nat → Prop} {w w' : World} {M : Nat} (h : St (fun b => b = M) w w') (hm : H M) {b : Nat} (hb : NH H w b) : NH H w' b := ⟨Nat.lt_of_lt_of_le hb.1 h.size, hb.2⟩
theorem NH.agree {H : Nat → Prop} {w w' : World} {M : Nat} (h : St (fun b => b = M) w w') (hm : H M) : Agree (NH H w) w w' := fun b hb => h.block b hb.1 fun e => hb.2 (e ▸ hm)
end
end Go.Proofs.YtechahocffcbpaaGreatDoor
namespace Go.Proofs.YtechahocffcbpaaGreatDoor
section
variable {P : Program} {ops : Array Oper} {Q : Exit → Act → World → Prop} {md : Region.Mode} {S : World → Prop}
theorem held_two {i j : Nat} {oi oj : Oper} {fuel : Nat} {listed : Array Bool} {a : Act} {w : World} (hr : Region.ready md ops listed = [i, j]) (hi : ops[i]? = some oi) (hj : ops[j]? = some oj) (hw : Region.wanted oi (yielded ops a.tmps) = true) (hv : Region.wanted oj (yielded ops a.tmps) = true)
    (h : ∀ K' : Act → World → Prop, Shut (∀ a w, S w → (S w → wpAnyH P md ops Q S fuel (listed.setIfInBounds i true) a w) → K' a w) → Oper.wp P oi a w K' Q)
    (h' : ∀ K' : Act → World → Prop, Shut (∀ a w, S w → (S w → wpAnyH P md ops Q S fuel (listed.setIfInBounds j true) a w) → K' a w) → Oper.wp P oj a w K' Q) : wpAnyH P md ops Q S (fuel + 1) listed a w :=
  wpAnyH_ready hr (by simp) (AllReadyH.cons hi (fun K' hK => by rw [if_pos hw]; exact h K' hK) (AllReadyH.cons hj (fun K' hK => by rw [if_pos hv]; exact h' K' hK) AllReadyH.nil))
end
end Go.Proofs.YtechahocffcbpaaGreatDoor
namespace Go.Proofs.YtechahocffcbpaaGreatDoor
open Go.RowKit Go.Maps
set_option linter.unusedVariables false
set_option linter.unusedSimpArgs false
structure Sb (H : Nat → Prop) (w w' : World) : Prop where
  os : w'.os = w.os
  tape : w'.tape = w.tape
  output : w'.output = w.output
  size : w.heap.size ≤ w'.heap.size
  block : ∀ b, b < w.heap.size → ¬ H b → w'.heap[b]? = w.heap[b]?
theorem St.sb {H : Nat → Prop} {w w' : World} (h : St H w w') : Sb H w w' := ⟨h.os, h.tape, h.output, h.size, h.block⟩
theorem Ext.sb {w w' : World} (h : Ext w w') (H : Nat → Prop) : Sb H w w' := (h.st H).sb
theorem Sb.refl (H : Nat → Prop) (w : World) : Sb H w w := (Ext.refl w).sb H
theorem Sb.trans {H : Nat → Prop} {a b c : World} (h : Sb H a b) (k : Sb H b c) : Sb H a c :=
  ⟨k.os.trans h.os, k.tape.trans h.tape, k.output.trans h.output, Nat.le_trans h.size k.size, fun i hi hn => (k.block i (Nat.lt_of_lt_of_le hi h.size) hn).trans (h.block i hi hn)⟩
theorem Sb.comp {H G : Nat → Prop} {a b c : World} (h : Sb H a b) (k : Sb G b c) (hG : ∀ i, i < a.heap.size → G i → H i) : Sb H a c :=
  ⟨k.os.trans h.os, k.tape.trans h.tape, k.output.trans h.output, Nat.le_trans h.size k.size, fun i hi hn => (k.block i (Nat.lt_of_lt_of_le hi h.size) fun hg => hn (hG i hi hg)).trans (h.block i hi hn)⟩
theorem Sb.mono {H G : Nat → Prop} {a b : World} (h : Sb H a b) (hG : ∀ i, i < a.heap.size → H i → G i) : Sb G a b :=
  ⟨h.os, h.tape, h.output, h.size, fun i hi hn => h.block i hi fun hh => hn (hG i hi hh)⟩
theorem Sb.of_below {n : Nat} {w w' : World} (h : Below n w w') : Sb (fun b => n ≤ b) w w' := ⟨h.os, h.tape, h.output, h.size, fun b _ hn => h.block b (by omega)⟩
theorem Sb.new {H : Nat → Prop} {w w' : World} (h : Below w.heap.size w w') : Sb H w w' := (Sb.of_below h).mono fun i hi hh => by omega
theorem Sb.below {H : Nat → Prop} {w w' : World} (h : Sb H w w') (hH : ∀ b, b < w.heap.size → ¬ H b) : Below w.heap.size w w' :=
  ⟨h.os, h.tape, h.output, h.size, fun b hb => h.block b hb (hH b hb)⟩
theorem Sb.step {H : Nat → Prop} {a w w' : World} (h : Below a.heap.size a w) (k : Sb H w w') (hH : ∀ b, H b → a.heap.size ≤ b) : Below a.heap.size a w' :=
  ((Sb.new (H := H) h).trans k).below fun b hb hh => by have := hH b hh; omega
theorem Sb.heap {H : Nat → Prop} {w w' : World} (h : Sb H w w') {b : Nat} (hb : b < w.heap.size) (hn : ¬ H b) : w'.heap[b]? = w.heap[b]? := h.block b hb hn
theorem Sb.cell {H : Nat → Prop} {w w' : World} (h : Sb H w w') {b o : Nat} (hb : b < w.heap.size) (hn : ¬ H b) : w'.cell? ⟨b, o, none⟩ = w.cell? ⟨b, o, none⟩ :=
  World.cell?_of_block (w := w) (a := ⟨b, o, none⟩) (h.block b hb hn)
theorem Sb.blk {H : Nat → Prop} {w w' : World} {g : Nat} {t : TypeId} {cs : Array Value} (h : Sb H w w') (hb : Blk w g t cs) (hn : ¬ H g) : Blk w' g t cs := (h.block g hb.lt hn).trans hb
theorem Sb.agree {H : Nat → Prop} {w w' : World} (h : Sb H w w') : Agree (NH H w) w w' := fun b hb => h.block b hb.1 hb.2
theorem Sb.ext {H : Nat → Prop} {a b c : World} (h : Sb H a b) (k : Ext b c) : Sb H a c := h.trans (k.sb H)
theorem Sb.drew {H : Nat → Prop} {a w : World} (h : Sb H a w) : Sb H a w.drew := h.ext ((Ext.refl w).drew)
theorem Sb.set {H : Nat → Prop} {a w : World} (h : Sb H a w) {p : Addr} (hp : a.heap.size ≤ p.block ∨ H p.block) (u : Value) : Sb H a (w.setCell p u) :=
  ⟨h.os, h.tape, h.output, by simpa [World.setCell] using h.size, fun i hi hn => (Below.heap_setCell w p u i (by
    rintro rfl
    rcases hp with hp | hp
    · omega
    · exact hn hp)).trans (h.block i hi hn)⟩
theorem Sb.grown {w w' : World} {b : Nat} (h : w.grownBy w' (some b)) : Sb (fun i => i = b) w w' :=
  ⟨h.os, h.tape, h.output, h.size, fun i hi hn => h.block i hi (by intro e; injection e with e; exact hn e)⟩
theorem Sb.made {H : Nat → Prop} {w w' : World} (h : w.grownBy w' none) : Sb H w w' := ⟨h.os, h.tape, h.output, h.size, fun i hi hn => h.block i hi (by simp)⟩
theorem ownsMap_heap {H : Type} {P : Program} {k : TypeId} {R : Value → Option (DataW H × List MemPlace)} {w w' : World} {b n : Nat} {D : DataW H} (h : w.ownsMap P k R b n D) (hb : w'.heap[b]? = w.heap[b]?) : w'.ownsMap P k R b n D := by
  obtain ⟨es, clock, h1, F, h2, h3⟩ := h
  exact ⟨es, clock, hb.trans h1, F, h2, h3⟩
structure OD where
  T : RT
  mb : Option Nat
  s : Sl
  us : List UD
  Hs : List (AL SV)
  C : AL SV
def OvB (O : Nat) (d : OD) : Nat → Prop := fun b => b = O ∨ d.mb = some b ∨ d.s.row = some b
def OvF (H : Nat → Prop) (w : World) (O : Nat) (d : OD) : Nat → Prop := fun b => b < w.heap.size ∧ ¬ OvB O d b ∧ ¬ H b
theorem rv_zeroO (w : World) (F : Nat → Prop) : RV w F zeroV Sl.none Sl.none := RV.flat _ _ _ _ _ _ (by decide) (by decide) (by decide)
def SVok (w : World) (F : Nat → Prop) (s : SV) : Prop := RV w F s.v s.sl s.so ∧ (s.has = false → s.v = zeroV)
theorem SVok.agree {w w' : World} {F : Nat → Prop} {s : SV} (h : SVok w F s) (ha : Agree F w w') : SVok w' F s := ⟨h.1.agree ha, h.2⟩
theorem SVok.mono {w : World} {F G : Nat → Prop} {s : SV} (h : SVok w F s) (hG : ∀ i, F i → G i) : SVok w G s := ⟨h.1.mono hG, h.2⟩
def UndoV (w : World) (F : Nat → Prop) (O : Nat) (u : UD) (v : Value) : Prop :=
  ∃ (bw bd bo bk : Nat) (o : SV), v = .func (.func 62) #[] #[.pointer (some ⟨bw, 0, none⟩), .pointer (some ⟨bd, 0, none⟩), .pointer (some ⟨bo, 0, none⟩), .pointer (some ⟨bk, 0, none⟩)] ∧
    (F bw ∧ F bd ∧ F bo ∧ F bk) ∧ Blk w bw 4 #[.bool u.old.isSome] ∧ Blk w bd 85 o.cells ∧ (∀ x, u.old = some x → x = o) ∧ Blk w bo 43 #[.pointer (some ⟨O, 0, none⟩)] ∧ Blk w bk 9 #[.string u.k]
theorem UndoV.agree {w w' : World} {F : Nat → Prop} {O : Nat} {u : UD} {v : Value} (h : UndoV w F O u v) (ha : Agree F w w') : UndoV w' F O u v := by
  obtain ⟨bw, bd, bo, bk, o, h1, ⟨f1, f2, f3, f4⟩, h2, h3, h4, h5, h6⟩ := h
  exact ⟨bw, bd, bo, bk, o, h1, ⟨f1, f2, f3, f4⟩, h2.agree ha f1, h3.agree ha f2, h4, h5.agree ha f3, h6.agree ha f4⟩
theorem UndoV.mono {w : World} {F G : Nat → Prop} {O : Nat} {u : UD} {v : Value} (h : UndoV w F O u v) (hG : ∀ i, F i → G i) : UndoV w G O u v := by
  obtain ⟨bw, bd, bo, bk, o, h1, ⟨f1, f2, f3, f4⟩, r⟩ := h
  exact ⟨bw, bd, bo, bk, o, h1, ⟨hG _ f1, hG _ f2, hG _ f3, hG _ f4⟩, r⟩
def OvMap (w : World) (mb : Option Nat) (C : AL SV) : Prop := match mb with
  | none => C = []
  | some b => w.ownsMap Tryz.prog 9 heldR b C.length (mapA SV.val C)
theorem OvMap.heap {w w' : World} {mb : Option Nat} {C : AL SV} (h : OvMap w mb C) (hb : ∀ b, mb = some b → w'.heap[b]? = w.heap[b]?) : OvMap w' mb C := by
  cases mb with
  | none => exact h
  | some b => exact ownsMap_heap h (hb b rfl)
theorem OvMap.lt {w : World} {mb : Option Nat} {C : AL SV} (h : OvMap w mb C) {b : Nat} (hb : mb = some b) : b < w.heap.size := by
  subst hb; exact World.ownsMap.lt h
theorem ownsMap_exact {w : World} {b n : Nat} {C : AL SV} (h : w.ownsMap Tryz.prog 9 heldR b n (mapA SV.val C)) : w.ownsMap Tryz.prog 9 heldR b C.length (mapA SV.val C) := by
  obtain ⟨es, clock, h1, F, h2, h3⟩ := h
  refine ⟨es, clock, h1, F, ?_, h3⟩
  have := congrArg Maps.size h3
  rw [size_mapA] at this
  simp [Maps.size, length_sorted] at this
  omega
def OvRow (w : World) (F : Nat → Prop) (O : Nat) (s : Sl) (us : List UD) : Prop :=
  ∃ xs : List Value, xs.length = us.length ∧ w.ownsRow 0 1 1 (.slice s.a us.length s.c) us.length xs ∧ ∀ (i : Nat) (u : UD) (v : Value), us[i]? = some u → xs[i]? = some v → UndoV w F O u v
structure OvAt (H : Nat → Prop) (w : World) (O : Nat) (d : OD) : Prop where
  blk : Blk w O 29 #[rootV d.T, .map d.mb, .slice d.s.a d.us.length d.s.c]
  map : OvMap w d.mb d.C
  row : OvRow w (OvF H w O d) O d.s d.us
  vals : ∀ p ∈ d.C, p.1.size ≤ maxLen ∧ SVok w (OvF H w O d) p.2
  olds : ∀ u ∈ d.us, u.k.size ≤ maxLen ∧ ∀ o, u.old = some o → SVok w (OvF H w O d) o
  hist : Chain d.us d.Hs
  h0 : d.Hs[0]? = some []
  last : d.Hs[d.us.length]? = some d.C
  sorted : SortedA d.C
  tree : IsT w (OvF H w O d) d.T
  ok : OkR d.T
  ne : d.mb ≠ some O ∧ d.s.row ≠ some O ∧ ∀ b, d.mb = some b → d.s.row ≠ some b
  out : ∀ b, OvB O d b → ¬ H b
  some_ : d.us ≠ [] → ∃ b, d.mb = some b
theorem Chain.short {us : List UD} {Hs : List (AL SV)} (h : Chain us Hs) (h0 : Hs[0]? = some []) : ∀ (i : Nat) (C : AL SV), Hs[i]? = some C → C.length ≤ i
  | 0, C, hC => by rw [h0] at hC; injection hC with hC; subst hC; exact Nat.le_refl _
  | i + 1, C, hC => by
    have hi : i < us.length := by have := (List.getElem?_eq_some_iff.1 hC).1; have := h.len; omega
    obtain ⟨C', s, h1, h2, h3, h4⟩ := h.step i _ (List.getElem?_eq_getElem hi)
    rw [h4] at hC
    injection hC with hC
    subst hC
    have := h.short h0 i C' h1
    have := putA_len (C := C') (k := (us[i]'hi).k) (v := s)
    omega
section
variable {H : Nat → Prop} {w w' : World} {O : Nat} {d : OD}
theorem OvAt.few (h : OvAt H w O d) : d.C.length ≤ d.us.length := h.hist.short h.h0 _ _ h.last
theorem OvAt.row_lt (h : OvAt H w O d) {b : Nat} (hb : d.s.row = some b) : b < w.heap.size := by
  obtain ⟨xs, -, h2, -⟩ := h.row
  exact (own_row h2 hb).2
theorem OvAt.own_lt (h : OvAt H w O d) {b : Nat} (hb : OvB O d b) : b < w.heap.size := by
  rcases hb with rfl | hb | hb
  · exact h.blk.lt
  · exact h.map.lt hb
  · exact h.row_lt hb
theorem OvAt.sb {G : Nat → Prop} (h : OvAt H w O d) (k : Sb G w w') (hG : ∀ b, G b → H b) : OvAt H w' O d := by
  have ha : Agree (OvF H w O d) w w' := fun b hb => k.block b hb.1 fun hh => hb.2.2 (hG b hh)
  have hm : ∀ i, OvF H w O d i → OvF H w' O d i := fun i hi => ⟨Nat.lt_of_lt_of_le hi.1 k.size, hi.2⟩
  have hn : ∀ b, OvB O d b → ¬ G b := fun b hb hg => h.out b hb (hG b hg)
  obtain ⟨xs, r1, r2, r3⟩ := h.row
  exact ⟨k.blk h.blk (hn O (.inl rfl)), h.map.heap fun b hb => k.block b (h.map.lt hb) (hn b (.inr (.inl hb))),
    ⟨xs, r1, own_agree r2 k.agree fun b hb => ⟨h.row_lt hb, hn b (.inr (.inr hb))⟩, fun i u v hu hv => ((r3 i u v hu hv).agree ha).mono hm⟩,
    fun p hp => ⟨(h.vals p hp).1, ((h.vals p hp).2.agree ha).mono hm⟩, fun u hu => ⟨(h.olds u hu).1, fun o ho => (((h.olds u hu).2 o ho).agree ha).mono hm⟩,
    h.hist, h.h0, h.last, h.sorted, (h.tree.agree ha).mono hm, h.ok, h.ne, h.out, h.some_⟩
theorem OvAt.ext (h : OvAt H w O d) (k : Ext w w') : OvAt H w' O d := h.sb (k.sb fun _ => False) fun _ hb => hb.elim
end
theorem strKey : Keyed Tryz.prog 9 := string_keyed Tryz.underlying9
theorem keyA (k : ByteArray) (hk : k.size ≤ maxLen) : keyOf Tryz.prog 9 (.string k) = some (keyS k) := Go.WideMaps.keyOf_string_mk Tryz.underlying9 hk
structure OvTo (H : Nat → Prop) (w : World) (O : Nat) (d d' : OD) (w' : World) : Prop where
  at_ : OvAt H w' O d'
  sb : Sb (OvB O d) w w'
  new : ∀ b, OvB O d' b → OvB O d b ∨ w.heap.size ≤ b
abbrev zeroSV : SV := ⟨false, zeroV, Sl.none, Sl.none⟩
theorem zeroSlot (w : World) : (zeroValue 85).run Tryz.prog w = .ok zeroSV.val w := by kernel_rfl
theorem Tryz.infoFn : (Tryz.prog.info? 1).map (fun i => (i.zero, i.size, i.bytes)) = some (some Value.nilFunc, 1, 8) := by kernel_rfl
def hadA (C : AL SV) (k : ByteArray) : SV := (getA C k).getD zeroSV
theorem look_ov {W : World} {mb : Option Nat} {C : AL SV} (hm : OvMap W mb C) {k : ByteArray} (hk : k.size ≤ maxLen) :
    (Instr.lookup 26 (.map mb) (.string k) true).run Tryz.prog W = .ok (.tuple #[(hadA C k).val, .bool (getA C k).isSome]) W := by
  cases mb with
  | none =>
    have hC : C = [] := hm
    subst hC
    rw [Maps.look_nil true strKey Tryz.underlying26 (zeroSlot W) (keyA k hk)]
    rfl
  | some b =>
    obtain ⟨v, ps, hrun, hv⟩ := World.ownsMap.look_ok hm strKey Tryz.underlying26 (zeroSlot W) (zd := .held zeroSV.val) (zp := []) rfl (keyA k hk)
    rw [at_mapA] at hv
    rw [hrun, has_mapA]
    unfold hadA
    cases hg : getA C k with
    | none => rw [hg] at hv; rw [heldR_inv hv]; rfl
    | some s => rw [hg] at hv; rw [heldR_inv hv]; rfl
theorem oper_putA {o : Oper} {a : Act} {Q : Exit → Act → World → Prop} {K : Act → World → Prop} {w : World} {m x v : Operand} (hop : o.op = Op.mapUpdate 26 m x v)
    {b : Nat} {C : AL SV} {k : ByteArray} {s : SV} (hm : a.eval m = .map (some b)) (hx : a.eval x = .string k) (hv : a.eval v = s.val) (hown : OvMap w (some b) C) (hk : k.size ≤ maxLen) (hC : C.length < maxLen) (hs : SortedA C)
    (hK : ∀ w', OvMap w' (some b) (putA C k s) → Sb (fun c => c = b) w w' → K (a.put o.dst undef) w') : Oper.wp Tryz.prog o a w K Q := by
  obtain ⟨w', hrun, r1, r2⟩ := World.ownsMap.store hown strKey Tryz.underlying26 hC (keyA k hk) (val := s.val) (d := .held s.val) (ps := []) rfl
  unfold Oper.wp
  simp [execOp, hop, hm, hx, hv, hrun, Result.andThen]
  rw [put_mapA SV.val hs] at r1
  exact hK _ (ownsMap_exact r1) (Sb.grown r2.grown)
theorem oper_delA {o : Oper} {a : Act} {Q : Exit → Act → World → Prop} {K : Act → World → Prop} {w : World} {m x : Operand} (hop : o.op = Op.call { callee := Callee.builtin Builtin.delete, args := #[m, x], argTypes := #[26, 9] })
    {b : Nat} {C : AL SV} {k : ByteArray} (hm : a.eval m = .map (some b)) (hx : a.eval x = .string k) (hown : OvMap w (some b) C) (hk : k.size ≤ maxLen)
    (hK : ∀ w', OvMap w' (some b) (delA C k) → Sb (fun c => c = b) w w' → K (a.put o.dst (.tuple #[])) w') : Oper.wp Tryz.prog o a w K Q := by
  obtain ⟨w', hrun, r1, r2⟩ := World.ownsMap.drop hown strKey Tryz.underlying26 (keyA k hk) o.type
  unfold Oper.wp
  simp [execOp, hop, resolve, invoke, builtin, hm, hx, hrun, Result.andThen]
  rw [del_mapA SV.val] at r1
  exact hK _ (ownsMap_exact r1) (Sb.grown r2.grown)
theorem OvMap.ne {w : World} {b g : Nat} {C : AL SV} {t : TypeId} {cs : Array Value} (h : OvMap w (some b) C) (hb : Blk w g t cs) : g ≠ b := by
  rintro rfl
  obtain ⟨es, clock, h1, -⟩ := h
  have h2 : w.heap[g]? = some (.cells cs t (0, 0)) := hb
  rw [h1] at h2
  cases h2
theorem hist_end {us : List UD} {Hs : List (AL SV)} {C : AL SV} (h : Chain us Hs) (hl : Hs[us.length]? = some C) : ∃ Ps, Hs = Ps ++ [C] := by
  have hn := h.len
  rcases List.eq_nil_or_concat Hs with rfl | ⟨Ps, c, rfl⟩
  · simp at hn
  · refine ⟨Ps, ?_⟩
    rw [List.concat_eq_append] at *
    rw [List.length_append, List.length_singleton] at hn
    rw [List.getElem?_append_right (by omega), show us.length - Ps.length = 0 by omega] at hl
    injection hl with hl
    rw [hl]
section
variable {H : Nat → Prop} {w wc : World} {O : Nat} {d : OD}
theorem OvAt.made (h : OvAt H w O d) (hm : d.mb = none) {b : Nat} (hb : w.heap.size ≤ b) (hH : ∀ b, H b → b < w.heap.size) (k : Sb (fun c => c = O) w wc)
    (hblk : Blk wc O 29 #[rootV d.T, .map (some b), .slice d.s.a d.us.length d.s.c]) (hown : wc.ownsMap Tryz.prog 9 heldR b 0 (mapA SV.val [])) : OvAt H wc O { d with mb := some b } := by
  have hC : d.C = [] := by have := h.map; rw [hm] at this; exact this
  have ha : Agree (OvF H w O d) w wc := fun i hi => k.block i hi.1 fun e => hi.2.1 (.inl e)
  have hmm : ∀ i, OvF H w O d i → OvF H wc O { d with mb := some b } i := fun i hi => ⟨Nat.lt_of_lt_of_le hi.1 k.size, fun e => by
    rcases e with e | e | e
    · exact hi.2.1 (.inl e)
    · have e : some b = some i := e
      injection e with e
      have := hi.1; omega
    · exact hi.2.1 (.inr (.inr e)), hi.2.2⟩
  obtain ⟨xs, r1, r2, r3⟩ := h.row
  refine ⟨hblk, ?_, ⟨xs, r1, own_agree r2 k.agree fun i hi => ⟨h.row_lt hi, fun e => h.ne.2.1 (by rw [← e]; exact hi)⟩, fun i u v hu hv => ((r3 i u v hu hv).agree ha).mono hmm⟩,
    fun p hp => ⟨(h.vals p hp).1, ((h.vals p hp).2.agree ha).mono hmm⟩, fun u hu => ⟨(h.olds u hu).1, fun o ho => (((h.olds u hu).2 o ho).agree ha).mono hmm⟩,
    h.hist, h.h0, h.last, h.sorted, (h.tree.agree ha).mono hmm, h.ok, ⟨?_, h.ne.2.1, ?_⟩, ?_, fun _ => ⟨b, rfl⟩⟩
  · show wc.ownsMap _ _ _ _ _ _
    rw [hC]; exact hown
  · intro e
    have e : some b = some O := e
    injection e with e
    have := h.blk.lt; omega
  · intro i hi hr
    have hi : some b = some i := hi
    injection hi with hi
    have := h.row_lt hr; omega
  · rintro i (hi | hi | hi) hh
    · exact h.out i (.inl hi) hh
    · have hi : some b = some i := hi
      injection hi with hi
      have := hH i hh; omega
    · exact h.out i (.inr (.inr hi)) hh
structure StepMid (H : Nat → Prop) (w : World) (O : Nat) (d : OD) (k : ByteArray) (sv : SV) (b : Nat) (wc : World) : Prop where
  at_ : OvAt H wc O { d with mb := some b }
  sb : Sb (OvB O d) w wc
  mb : d.mb = some b ∨ w.heap.size ≤ b
  big : w.heap.size + 3 ≤ wc.heap.size
  bo : Blk wc w.heap.size 43 #[.pointer (some ⟨O, 0, none⟩)]
  bk : Blk wc (w.heap.size + 1) 9 #[.string k]
  bs : Blk wc (w.heap.size + 1 + 1) 85 sv.cells
  ok : SVok wc (OvF H wc O { d with mb := some b }) sv
def StepPost (H : Nat → Prop) (O : Nat) (d : OD) (k : ByteArray) (sv : SV) (w : World) (e : Ending) (w' : World) : Prop :=
  (∃ r, e = .returned r) ∧ ∃ mb s, OvTo H w O d ⟨d.T, mb, s, d.us ++ [⟨k, getA d.C k⟩], d.Hs ++ [putA d.C k sv], putA d.C k sv⟩ w'
abbrev undoC (bw bd bo bk : Nat) : Value := .func (.func 62) #[] #[.pointer (some ⟨bw, 0, none⟩), .pointer (some ⟨bd, 0, none⟩), .pointer (some ⟨bo, 0, none⟩), .pointer (some ⟨bk, 0, none⟩)]
theorem step_end {k : ByteArray} {sv : SV} {b : Nat} {wm W w5 w7 : World} (hM : StepMid H w O d k sv b wc) (hlO : O < w.heap.size) (hrl : ∀ i, d.s.row = some i → i < w.heap.size) (hH : ∀ b, H b → b < w.heap.size) (hk : k.size ≤ maxLen) (hxm : Ext wc wm)
    {bw bd : Nat} (hw1 : wc.heap.size ≤ bw ∧ bw < wm.heap.size) (hd1 : wc.heap.size ≤ bd ∧ bd < wm.heap.size) (hbd : Blk wm bd 85 (hadA d.C k).cells) (hbw : Blk wm bw 4 #[.bool (getA d.C k).isSome]) (hx : Ext wm W)
    {xs : List Value} (hl : xs.length = d.us.length) (hun : ∀ (i : Nat) (u : UD) (v : Value), d.us[i]? = some u → xs[i]? = some v → UndoV wc (OvF H wc O { d with mb := some b }) O u v) {s5 : Sl}
    (hown : w5.ownsRow 0 1 1 (.slice s5.a (d.us.length + 1) s5.c) (d.us.length + 1) (xs ++ [undoC bw bd w.heap.size (w.heap.size + 1)])) (hwr : Wr W w5 d.s.row) (hs : s5.a = d.s.a ∨ s5.a = some ⟨W.heap.size, 0, none⟩ ∧ Wr W w5 none)
    (h7 : OvMap w7 (some b) (putA d.C k sv)) (hsb7 : Sb (fun c => c = b) (w5.setCell ⟨O, 2, none⟩ (.slice s5.a (d.us.length + 1) s5.c)) w7) :
    OvTo H w O d ⟨d.T, some b, s5, d.us ++ [⟨k, getA d.C k⟩], d.Hs ++ [putA d.C k sv], putA d.C k sv⟩ w7 := by
  have hbig := hM.big
  have hcm := hxm.size
  have hmW := hx.size
  have hW5 := hwr.grown.size
  have h57 := hsb7.size
  rw [World.size_setCell] at h57
  have hbl : b < wc.heap.size := hM.at_.map.lt rfl
  have hbO : b ≠ O := fun e => hM.at_.ne.1 (by rw [e])
  have hbr : d.s.row ≠ some b := fun e => hM.at_.ne.2.2 b rfl e
  have hOr : d.s.row ≠ some O := hM.at_.ne.2.1
  have hrow : ∀ i, s5.row = some i → d.s.row = some i ∨ i = W.heap.size := fun i hi => by
    rcases hs with h | ⟨h, -⟩
    · left; rw [Sl.row, ← h]; exact hi
    · right; rw [Sl.row, h] at hi; simpa using hi.symm
  have h5O : s5.row ≠ some O := fun e => by
    rcases hrow O e with h | h
    · exact hOr h
    · omega
  have h5b : s5.row ≠ some b := fun e => by
    rcases hrow b e with h | h
    · exact hbr h
    · omega
  -- what turns between wc and the end
  have hW : Sb (fun _ => False) wc W := (hxm.trans hx).sb _
  have h5 : Sb (fun c => d.s.row = some c) W w5 := ⟨hwr.grown.os, hwr.grown.tape, hwr.grown.output, hwr.grown.size, fun i hi hn => hwr.grown.block i hi fun e => hn e.symm⟩
  have h6 : Sb (fun c => c = O) w5 (w5.setCell ⟨O, 2, none⟩ (.slice s5.a (d.us.length + 1) s5.c)) := (Sb.refl (fun c => c = O) w5).set (p := ⟨O, 2, none⟩) (.inr rfl) _
  have hall : Sb (OvB O { d with mb := some b }) wc w7 :=
    (((hW.mono fun i _ h => h.elim).trans (h5.mono fun i _ h => .inr (.inr h))).trans (h6.mono fun i _ h => .inl h)).trans (hsb7.mono fun i _ h => .inr (.inl (by rw [h])))
  have hkeep : ∀ {g t cs}, Blk wm g t cs → g ≠ O → g ≠ b → d.s.row ≠ some g → Blk w7 g t cs := fun hb h1 h2 h3 =>
    hsb7.blk (h6.blk (h5.blk (hb.ext hx) h3) h1) h2
  have hout : ∀ i, wc.heap.size ≤ i ∨ (i = w.heap.size ∨ i = w.heap.size + 1) → i < wm.heap.size → i ≠ b → OvF H w7 O ⟨d.T, some b, s5, d.us ++ [⟨k, getA d.C k⟩], d.Hs ++ [putA d.C k sv], putA d.C k sv⟩ i := fun i hi hlt hnb =>
    ⟨by omega, fun e => by
      rcases e with e | e | e
      · omega
      · have e : some b = some i := e
        injection e with e
        exact hnb e.symm
      · rcases hrow i e with h | h
        · have := hrl i h; omega
        · omega, fun hh => by have := hH i hh; omega⟩
  have hb0 := hM.bo
  have hb1 := hM.bk
  have nb0 := OvMap.ne hM.at_.map hb0
  have nb1 := OvMap.ne hM.at_.map hb1
  have ha : Agree (OvF H wc O { d with mb := some b }) wc w7 := fun i hi => hall.block i hi.1 hi.2.1
  have hm : ∀ i, OvF H wc O { d with mb := some b } i → OvF H w7 O ⟨d.T, some b, s5, d.us ++ [⟨k, getA d.C k⟩], d.Hs ++ [putA d.C k sv], putA d.C k sv⟩ i := fun i hi =>
    ⟨Nat.lt_of_lt_of_le hi.1 hall.size, fun e => by
      rcases e with e | e | e
      · exact hi.2.1 (.inl e)
      · exact hi.2.1 (.inr (.inl e))
      · rcases hrow i e with h | h
        · exact hi.2.1 (.inr (.inr h))
        · have := hi.1; omega, hi.2.2⟩
  obtain ⟨Ps, hPs⟩ := hist_end hM.at_.hist hM.at_.last
  have hPs : d.Hs = Ps ++ [d.C] := hPs
  have hch : Chain d.us d.Hs := hM.at_.hist
  have hlast : d.Hs[d.us.length]? = some d.C := hM.at_.last
  have hlen := hch.len
  have hsrt : SortedA d.C := hM.at_.sorted
  refine ⟨⟨?_, h7, ⟨xs ++ [undoC bw bd w.heap.size (w.heap.size + 1)], by simp [hl], ?_, ?_⟩, ?_, ?_, ?_, ?_, ?_, putA_sorted hsrt _ _, (hM.at_.tree.agree ha).mono hm, hM.at_.ok, ⟨?_, h5O, ?_⟩, ?_, fun _ => ⟨b, rfl⟩⟩, ?_, ?_⟩
  · have h8 : Blk (w5.setCell ⟨O, 2, none⟩ (.slice s5.a (d.us.length + 1) s5.c)) O 29 #[rootV d.T, .map (some b), .slice s5.a (d.us.length + 1) s5.c] := (h5.blk ((hM.at_.blk.ext hxm).ext hx) hOr).set_ 2 _
    have h9 := hsb7.blk h8 (fun e => hbO e.symm)
    show Blk w7 O _ #[_, _, .slice s5.a (d.us ++ [(⟨k, getA d.C k⟩ : UD)]).length s5.c]
    rw [List.length_append, List.length_singleton]
    exact h9
  · show w7.ownsRow 0 _ 1 (.slice s5.a (d.us ++ [(⟨k, getA d.C k⟩ : UD)]).length s5.c) (d.us ++ [(⟨k, getA d.C k⟩ : UD)]).length _
    rw [List.length_append, List.length_singleton]
    exact own_agree (own_agree hown h6.agree fun i hi => ⟨(own_row hown hi).2, fun e => h5O (by rw [← e]; exact hi)⟩) hsb7.agree fun i hi => ⟨by rw [World.size_setCell]; exact (own_row hown hi).2, fun e => h5b (by rw [← e]; exact hi)⟩
  · intro i u v hu hv
    rcases Nat.lt_or_ge i d.us.length with hi | hi
    · have hu : (d.us ++ [(⟨k, getA d.C k⟩ : UD)])[i]? = some u := hu
      rw [List.getElem?_append_left hi] at hu
      rw [List.getElem?_append_left (by omega)] at hv
      exact ((hun i u v hu hv).agree ha).mono hm
    · have hu : (d.us ++ [(⟨k, getA d.C k⟩ : UD)])[i]? = some u := hu
      rw [List.getElem?_append_right hi] at hu
      rw [List.getElem?_append_right (by omega)] at hv
      have h0 : i - d.us.length = 0 := by have := (List.getElem?_eq_some_iff.1 hu).1; simpa using this
      rw [h0] at hu
      rw [show i - xs.length = 0 by omega] at hv
      have hu : (⟨k, getA d.C k⟩ : UD) = u := by simpa using hu
      have hv : undoC bw bd w.heap.size (w.heap.size + 1) = v := by simpa using hv
      subst hu hv
      refine ⟨bw, bd, w.heap.size, w.heap.size + 1, hadA d.C k, rfl, ⟨hout _ (.inl hw1.1) hw1.2 (by omega), hout _ (.inl hd1.1) hd1.2 (by omega), hout _ (.inr (.inl rfl)) (by omega) nb0, hout _ (.inr (.inr rfl)) (by omega) nb1⟩, ?_, ?_, ?_, ?_, ?_⟩
      · exact hkeep hbw (by omega) (by omega) fun e => by have := hrl _ e; omega
      · exact hkeep hbd (by omega) (by omega) fun e => by have := hrl _ e; omega
      · intro x hx
        have hx : getA d.C k = some x := hx
        unfold hadA; rw [hx]; rfl
      · exact hkeep (hb0.ext hxm) (by omega) nb0 fun e => by have := hrl _ e; omega
      · exact hkeep (hb1.ext hxm) (by omega) nb1 fun e => by have := hrl _ e; omega
  · intro p hp
    rcases mem_putA hp with rfl | hp
    · exact ⟨hk, (hM.ok.agree ha).mono hm⟩
    · exact ⟨(hM.at_.vals p hp).1, ((hM.at_.vals p hp).2.agree ha).mono hm⟩
  · intro u hu
    rcases List.mem_append.1 hu with hu | hu
    · exact ⟨(hM.at_.olds u hu).1, fun o ho => (((hM.at_.olds u hu).2 o ho).agree ha).mono hm⟩
    · rw [List.mem_singleton.1 hu]
      exact ⟨hk, fun o ho => ((((hM.at_.vals (k, o) (getA_some ho)).2).agree ha).mono hm)⟩
  · show Chain (d.us ++ [(⟨k, getA d.C k⟩ : UD)]) (d.Hs ++ [putA d.C k sv])
    rw [hPs] at hch ⊢
    exact hch.snoc hsrt k sv
  · have h0 : d.Hs[0]? = some [] := hM.at_.h0
    show (d.Hs ++ [putA d.C k sv])[0]? = _
    rw [List.getElem?_append_left (by omega)]; exact h0
  · show (d.Hs ++ [putA d.C k sv])[(d.us ++ [(⟨k, getA d.C k⟩ : UD)]).length]? = some (putA d.C k sv)
    rw [List.length_append, List.length_singleton, List.getElem?_append_right (by omega), show d.us.length + 1 - d.Hs.length = 0 by omega]; rfl
  · intro e
    have e : some b = some O := e
    injection e with e
    exact hbO e
  · intro i hi
    have hi : some b = some i := hi
    injection hi with hi
    subst hi
    exact h5b
  · rintro i (hi | hi | hi) hh
    · exact hM.at_.out i (.inl hi) hh
    · exact hM.at_.out i (.inr (.inl hi)) hh
    · rcases hrow i hi with h | h
      · exact hM.at_.out i (.inr (.inr h)) hh
      · have := hH i hh; omega
  · refine hM.sb.comp hall fun i hi h => ?_
    rcases h with h | h | h
    · exact .inl h
    · have h : some b = some i := h
      injection h with h
      subst h
      rcases hM.mb with h | h
      · exact .inr (.inl h)
      · omega
    · exact .inr (.inr h)
  · rintro i (hi | hi | hi)
    · exact .inl (.inl hi)
    · have hi : some b = some i := hi
      injection hi with hi
      subst hi
      rcases hM.mb with h | h
      · exact .inl (.inr (.inl h))
      · exact .inr h
    · rcases hrow i hi with h | h
      · exact .inl (.inr (.inr h))
      · right; omega
end
abbrev od0 (T : RT) : OD := ⟨T, none, Sl.none, [], [[]], []⟩
theorem OvAt.fresh {H : Nat → Prop} {w : World} {F : Nat → Prop} {O : Nat} {T : RT} (hb : Blk w O 29 #[rootV T, .map none, .slice none 0 0]) (hT : IsT w F T) (ok : OkR T) (hF : ∀ b, F b → b < w.heap.size ∧ ¬ H b ∧ b ≠ O) (hO : ¬ H O) : OvAt H w O (od0 T) :=
  ⟨hb, rfl, ⟨[], rfl, World.ownsRow_nil _ _ _ _, fun i u v hu => by simp at hu⟩, fun p hp => (by cases hp), fun u hu => (by cases hu), Chain.nil [], rfl, rfl, List.Pairwise.nil,
    hT.mono fun b hb => ⟨(hF b hb).1, ⟨fun h => by
      rcases h with h | h | h
      · exact (hF b hb).2.2 h
      · cases h
      · (cases h), (hF b hb).2.1⟩⟩, ok, ⟨by simp, by simp [Sl.row], fun b hb => (by cases hb)⟩, fun b hb => by
    rcases hb with rfl | h | h
    · exact hO
    · cases h
    · (cases h), fun h => absurd rfl h⟩
theorem begin_ov {w : World} {F H : Nat → Prop} {T : RT} (hT : IsT w F T) (ok : OkR T) (hF : ∀ b, F b → b < w.heap.size ∧ ¬ H b) (hH : ∀ b, H b → b < w.heap.size) :
    Calls Tryz.prog 15 #[treeV T] w fun e w' => ∃ O, e = .returned (.pointer (some ⟨O, 0, none⟩)) ∧ w.heap.size ≤ O ∧ OvAt H w' O (od0 T) ∧ Ext w w' := by
  obtain ⟨p, hp⟩ := rootV_ptr T
  rw [treeV, hp]
  have HT := Lib.hid hT
  have HF := Lib.hid hF
  have HH := Lib.hid hH
  have HP := Lib.hid hp
  clear hT hF hH hp
  go_enter Tryz.func15, Tryz.ntmps15
  go_wp2_with fail
  generalize hW0 : World.alloc _ _ = W0
  obtain ⟨hx0, hz0, -, hb1⟩ := two_blocks w _ _ _ _ W0 hW0
  refine bodyPost_ret (v := .pointer (some ⟨w.heap.size + 1, 0, none⟩)) (by simp [results, Tryz.results15, go_sem]) rfl ?_
  refine ⟨w.heap.size + 1, rfl, Nat.le_succ _, OvAt.fresh (by rw [HP.out]; exact hb1) (HT.out.agree (hx0.agree fun b hb => (HF.out b hb).1)) ok (fun b hb => ⟨by have := (HF.out b hb).1; omega, (HF.out b hb).2, by have := (HF.out b hb).1; omega⟩) (fun h => by have := HH.out _ h; omega), hx0⟩
theorem mark_ov {H : Nat → Prop} {w : World} {O : Nat} {d : OD} (h : OvAt H w O d) : Calls Tryz.prog 18 #[.pointer (some ⟨O, 0, none⟩)] w fun e w' => e = .returned (.int .i64 (d.us.length : Int)) ∧ Ext w w' := by
  have c2 : w.cell? ⟨O, 2, none⟩ = some (.slice d.s.a d.us.length d.s.c) := h.blk.cell 2
  clear h
  go_enter Tryz.func18, Tryz.ntmps18
  go_wp2_with fail
  go_ret
  exact ⟨rfl, Ext.refl w⟩
theorem mark_nil (w : World) : Calls Tryz.prog 18 #[.pointer none] w fun e w' => e = .returned (.int .i64 0) ∧ Ext w w' := by
  go_enter Tryz.func18, Tryz.ntmps18
  go_wp2_with fail
  go_ret
  exact ⟨rfl, Ext.refl w⟩
theorem get_ov_nil (w : World) (k : ByteArray) : Calls Tryz.prog 11 #[.pointer none, .string k] w (GetPost none w) := by
  go_enter Tryz.func11, Tryz.ntmps11
  go_wp2_with fail
  refine bodyPost_ret (v := .tuple #[aggV zeroV Sl.none Sl.none, .bool false]) (by simp [results, Tryz.results11, go_sem]; exact ⟨rfl, rfl, rfl, rfl, rfl, rfl⟩) rfl ?_
  exact ⟨Sl.none, Sl.none, rfl, (Ext.refl w).alloc _ _, rv_zeroO _ _⟩
abbrev OD.now (d : OD) (k : ByteArray) : Option Val := nowE (entsT d.T) (optA d.C) k
theorem now_none {d : OD} {k : ByteArray} (h : getA d.C k = none) : d.now k = getE (entsT d.T) k := by
  unfold OD.now nowE
  rw [getA_opt, h]; rfl
theorem now_some {d : OD} {k : ByteArray} {s : SV} (h : getA d.C k = some s) : d.now k = s.opt := by
  unfold OD.now nowE
  rw [getA_opt, h]; rfl
theorem opt_val {w : World} {F : Nat → Prop} {s : SV} (h : SVok w F s) : s.opt.getD zeroV = s.v ∧ s.opt.isSome = s.has := by
  unfold SV.opt
  cases hh : s.has with
  | true => simp
  | false => simp [h.2 hh]
theorem get_ov {H : Nat → Prop} {w : World} {O : Nat} {d : OD} (h : OvAt H w O d) (hl : (entsT d.T).length ≤ 1000000) {k : ByteArray} (hk : k.size ≤ maxLen) :
    Calls Tryz.prog 11 #[.pointer (some ⟨O, 0, none⟩), .string k] w (GetPost (d.now k) w) := by
  have lO := h.blk.lt
  have c1 : w.cell? ⟨O, 1, none⟩ = some (.map d.mb) := h.blk.cell 1
  have c0 : w.cell? ⟨O, 0, none⟩ = some (rootV d.T) := h.blk.cell 0
  have hlk : ∀ cs t, (Instr.lookup 26 (.map d.mb) (.string k) true).run Tryz.prog (w.alloc (.cells cs t)) = .ok (.tuple #[(hadA d.C k).val, .bool (getA d.C k).isSome]) (w.alloc (.cells cs t)) := fun cs t =>
    look_ov (h.map.heap fun b hb => Below.heap_alloc _ _ _ (h.map.lt hb)) hk
  cases hg : getA d.C k with
  | none =>
    rw [now_none hg]
    simp only [hg, hadA, Option.getD_none, Option.isSome_none] at hlk
    have hF : ∀ b, OvF H w O d b → b < w.heap.size := fun b hb => hb.1
    have hgt := fun W (hW : Ext w W) => treeGet_any (w := W) (fun b hb => Nat.lt_of_lt_of_le (hF b hb) hW.size) (h.tree.agree (hW.agree hF)) h.ok hl k
    generalize getE (entsT d.T) k = og at *
    obtain ⟨p, hp⟩ := rootV_ptr d.T
    rw [hp] at c0
    simp only [treeV, hp] at hgt
    have HGT := Lib.hid hgt
    clear hgt h hF hg hp
    go_enter Tryz.func11, Tryz.ntmps11
    go_wp2_with fail
    generalize hW0 : World.alloc _ _ = W0
    obtain ⟨hx0, hz0, hb0, hb1⟩ := two_blocks w _ _ _ _ W0 hW0
    have HX0 := Lib.hid hx0
    have HB0 := Lib.hid hb0
    have HZ := Lib.hid hz0
    clear hW0 hb0 hb1 hz0 hlk
    refine (HGT.out W0 hx0).mono ?_
    rintro e w1 ⟨sl, so, rfl, hx1, hrv⟩
    have hb := HB0.out.ext hx1
    obtain ⟨q0, q1, q2, q3, q4, q5⟩ := hb.c6
    have f2 := hb.frozen
    have lb := hb.lt
    have HX1 := Lib.hid hx1
    have HRV := Lib.hid hrv
    clear hb hx1 hrv hx0 HGT
    go_wp2_with fail
    refine bodyPost_ret (v := .tuple #[aggV (og.getD zeroV) sl so, .bool og.isSome]) (by simp [results, Tryz.results11, go_sem, q0, q1, q2, q3, q4, q5]) rfl ?_
    exact getPost_end (HX0.out.trans HX1.out) (b := w.heap.size) (lo := W0.heap.size) (by omega) (by rw [HZ.out]; omega) HRV.out
  | some s =>
    rw [now_some hg]
    have hs := (h.vals (k, s) (getA_some hg)).2
    have hv : s.opt.getD zeroV = s.v ∧ s.opt.isSome = s.has := opt_val hs
    simp only [hg, hadA, Option.getD_some, Option.isSome_some] at hlk
    have hcp := fun W (hW : Ext w W) => copy_any _ s.v (Nat.le_refl _) W s.sl s.so ((hs.1.agree (hW.agree fun b hb => hb.1)).mono fun b hb => Nat.lt_of_lt_of_le hb.1 hW.size)
    obtain ⟨og, hog⟩ : ∃ og, s.opt = og := ⟨_, rfl⟩
    rw [hog] at hv ⊢
    obtain ⟨has, v, sl, so⟩ := s
    obtain ⟨rfl, rfl⟩ := hv
    have HCP := Lib.hid hcp
    clear hcp h hg hs hog
    go_enter Tryz.func11, Tryz.ntmps11
    go_wp2_with fail
    generalize hW0 : World.alloc _ _ = W0
    obtain ⟨hx0, hz0, hb0, hb1⟩ := two_blocks w _ _ _ _ W0 hW0
    have HSS := Lib.hid (show ∀ W, St (fun b => b = w.heap.size) W0 W → W.cell? ⟨w.heap.size + 1, 0, none⟩ = some (.bool og.isSome) ∧ W.cell? ⟨w.heap.size + 1, 1, none⟩ = some (.int .i64 (og.getD zeroV).kind) ∧ W.cell? ⟨w.heap.size + 1, 2, none⟩ = some (.bool (og.getD zeroV).b) ∧ W.cell? ⟨w.heap.size + 1, 3, none⟩ = some (.int .i64 (og.getD zeroV).i) ∧ W.cell? ⟨w.heap.size + 1, 4, none⟩ = some (.string (og.getD zeroV).t) ∧ W.cell? ⟨w.heap.size + 1, 5, none⟩ = some (.slice sl.a (og.getD zeroV).l.length sl.c) ∧ W.cell? ⟨w.heap.size + 1, 6, none⟩ = some (.slice so.a (og.getD zeroV).ok.length so.c) from
      fun W hW => by
        have hb := hW.blk hb1 (by omega)
        exact ⟨hb.cell 0, hb.cell 1, hb.cell 2, hb.cell 3, hb.cell 4, hb.cell 5, hb.cell 6⟩)
    have HX0 := Lib.hid hx0
    have HB0 := Lib.hid hb0
    have HZ := Lib.hid hz0
    have l0 := hb0.lt
    clear hW0 hx0 hb0 hb1 hz0 hlk
    refine wp_region_held_drew (S := (fun w' => St (fun b => b = w.heap.size) W0 w')) (by kernel_rfl) (((St.refl _ W0).drew)) (fun hHeld => ?_)
    refine heldT 0 (some 21) HSS hHeld ?_
    refine heldT 1 (some 22) HSS hHeld ?_
    refine heldT 3 (some 24) HSS hHeld ?_
    refine heldT 4 (some 25) HSS hHeld ?_
    refine held_call (i := 2) (by kernel_rfl) rfl (by rfl) (fun K hK => ?_)
    go_simp
    (refine (HCP.out _ (HX0.out.drew)).mono ?_; rintro e w2 ⟨sl2, so2, rfl, hx2, hrv⟩; have hb2 := (HB0.out.ext ((Ext.refl W0).drew)).ext hx2; obtain ⟨q0, q1, q2, q3, q4, q5⟩ := hb2.c6; have f2 := hb2.frozen; have lb := hb2.lt)
    refine hK.out _ _ (hHeld.ext hx2) (fun hHeld => ?_)
    clear hK K
    try simp only [Act.put, List.setIfInBounds_toArray, List.set_cons_zero, List.set_cons_succ]
    refine held_call (i := 5) (by kernel_rfl) rfl (by rfl) (fun K hK => ?_)
    go_simp
    skip
    refine hK.out _ _ (hHeld.putV (.inr rfl) 0 _ _ _) (fun hHeld => ?_)
    clear hK K
    try simp only [Act.put, List.setIfInBounds_toArray, List.set_cons_zero, List.set_cons_succ]
    refine heldT 6 (some 5) HSS hHeld ?_
    refine wpAnyH_done (by kernel_rfl) ?_ _
    go_wp2_with fail
    refine bodyPost_ret (v := .tuple #[aggV (og.getD zeroV) sl2 so2, .bool og.isSome]) (by simp [results, Tryz.results11, go_sem, q0, q1, q2, q3, q4, q5]) rfl ?_
    exact getPost_end ((HX0.out.drew).trans hx2) (b := w.heap.size) (lo := W0.heap.size) (by omega) (by rw [HZ.out]; omega) hrv
theorem undo1_any {w : World} {O b : Nat} {C : AL SV} {r sl : Value} {u : UD} {bw bd bo bk : Nat} {o : SV} (hblk : Blk w O 29 #[r, .map (some b), sl]) (hmap : OvMap w (some b) C) (hs : SortedA C) (hC : C.length < maxLen) (hk : u.k.size ≤ maxLen)
    (hbw : Blk w bw 4 #[.bool u.old.isSome]) (hbd : Blk w bd 85 o.cells) (ho : ∀ x, u.old = some x → x = o) (hbo : Blk w bo 43 #[.pointer (some ⟨O, 0, none⟩)]) (hbk : Blk w bk 9 #[.string u.k]) :
    Calls Tryz.prog 62 #[.pointer (some ⟨bw, 0, none⟩), .pointer (some ⟨bd, 0, none⟩), .pointer (some ⟨bo, 0, none⟩), .pointer (some ⟨bk, 0, none⟩)] w fun e w' => (∃ r, e = .returned r) ∧ OvMap w' (some b) (undo1 u C) ∧ Sb (fun c => c = b) w w' := by
  obtain ⟨k, old⟩ := u
  have cw : w.cell? ⟨bw, 0, none⟩ = some (.bool old.isSome) := hbw.cell 0
  have nO := OvMap.ne hmap hblk
  have no := OvMap.ne hmap hbo
  have nk := OvMap.ne hmap hbk
  have nd := OvMap.ne hmap hbd
  have HMAP := Lib.hid hmap
  cases old with
  | none =>
    have HSS := Lib.hid (show ∀ W, Sb (fun c => c = b) w W → W.cell? ⟨bo, 0, none⟩ = some (.pointer (some ⟨O, 0, none⟩)) ∧ W.cell? ⟨O, 1, none⟩ = some (.map (some b)) ∧ W.cell? ⟨bk, 0, none⟩ = some (.string k) from
      fun W hW => ⟨(hW.blk hbo no).cell 0, (hW.blk hblk nO).cell 1, (hW.blk hbk nk).cell 0⟩)
    clear hblk hbw hbd hbo hbk hmap ho nO no nk nd
    go_enter Tryz.func62, Tryz.ntmps62
    go_wp2_with fail
    refine wp_region_held_drew (S := (fun w' => Sb (fun c => c = b) w w')) (by kernel_rfl) (((Sb.refl _ w).drew)) (fun hHeld => ?_)
    refine heldT 0 (some 11) HSS hHeld ?_
    refine heldT 1 (some 12) HSS hHeld ?_
    refine heldT 2 (some 13) HSS hHeld ?_
    refine heldT 3 (some 14) HSS hHeld ?_
    refine heldT 4 (some 15) HSS hHeld ?_
    refine held_call (i := 5) (by kernel_rfl) rfl (by rfl) (fun K hK => ?_)
    skip
    (refine oper_delA (b := b) (C := C) (k := k) rfl rfl rfl (HMAP.out.heap fun _ _ => rfl) hk ?_; intro w7 hown7 hsb7)
    refine hK.out _ _ (hHeld.trans hsb7) (fun hHeld => ?_)
    clear hK K
    try simp only [Act.put, List.setIfInBounds_toArray, List.set_cons_zero, List.set_cons_succ]
    refine wpAnyH_done (by kernel_rfl) ?_ _
    go_end0
    exact ⟨⟨_, rfl⟩, hown7, hHeld⟩
  | some x =>
    obtain rfl := ho x rfl
    obtain ⟨has, v, sl', so⟩ := x
    have HSS := Lib.hid (show ∀ W, Sb (fun c => c = b) w W → W.cell? ⟨bo, 0, none⟩ = some (.pointer (some ⟨O, 0, none⟩)) ∧ W.cell? ⟨O, 1, none⟩ = some (.map (some b)) ∧ W.cell? ⟨bk, 0, none⟩ = some (.string k) ∧ W.cell? ⟨bd, 0, none⟩ = some (.bool has) ∧ W.cell? ⟨bd, 1, none⟩ = some (.int .i64 v.kind) ∧ W.cell? ⟨bd, 2, none⟩ = some (.bool v.b) ∧ W.cell? ⟨bd, 3, none⟩ = some (.int .i64 v.i) ∧ W.cell? ⟨bd, 4, none⟩ = some (.string v.t) ∧ W.cell? ⟨bd, 5, none⟩ = some (.slice sl'.a v.l.length sl'.c) ∧ W.cell? ⟨bd, 6, none⟩ = some (.slice so.a v.ok.length so.c) from
      fun W hW => ⟨(hW.blk hbo no).cell 0, (hW.blk hblk nO).cell 1, (hW.blk hbk nk).cell 0, (hW.blk hbd nd).cell 0, (hW.blk hbd nd).cell 1, (hW.blk hbd nd).cell 2, (hW.blk hbd nd).cell 3, (hW.blk hbd nd).cell 4, (hW.blk hbd nd).cell 5, (hW.blk hbd nd).cell 6⟩)
    clear hblk hbw hbd hbo hbk hmap ho nO no nk nd
    go_enter Tryz.func62, Tryz.ntmps62
    go_wp2_with fail
    refine wp_region_held_drew (S := (fun w' => Sb (fun c => c = b) w w')) (by kernel_rfl) (((Sb.refl _ w).drew)) (fun hHeld => ?_)
    refine heldT 0 (some 5) HSS hHeld ?_
    refine heldT 1 (some 6) HSS hHeld ?_
    refine heldT 2 (some 7) HSS hHeld ?_
    refine heldT 3 (some 8) HSS hHeld ?_
    refine heldT 4 (some 9) HSS hHeld ?_
    refine heldT 5 (some 10) HSS hHeld ?_
    refine held_call (i := 6) (by kernel_rfl) rfl (by rfl) (fun K hK => ?_)
    skip
    (refine oper_putA (b := b) (C := C) (k := k) (s := ⟨has, v, sl', so⟩) rfl rfl rfl rfl (HMAP.out.heap fun _ _ => rfl) hk hC hs ?_; intro w7 hown7 hsb7)
    refine hK.out _ _ (hHeld.trans hsb7) (fun hHeld => ?_)
    clear hK K
    try simp only [Act.put, List.setIfInBounds_toArray, List.set_cons_zero, List.set_cons_succ]
    refine wpAnyH_done (by kernel_rfl) ?_ _
    go_end0
    exact ⟨⟨_, rfl⟩, hown7, hHeld⟩
theorem own_cut {w : World} {base e n c : Nat} {a : Option Addr} {xs : List Value} (h : w.ownsRow base e 1 (.slice a n c) n xs) {m : Nat} (hm : m ≤ n) : w.ownsRow base e 1 (.slice a m c) m (xs.take m) := by
  have hl := h.1
  rcases h.2 with ⟨hv, h0⟩ | ⟨g, cap, cur, hv, hbg, hg, hnc, hcm, hcs, ht⟩
  · obtain rfl : m = 0 := by omega
    subst h0
    exact ⟨by simp, .inl ⟨hv, rfl⟩⟩
  · injection hv with h1 h2 h3
    subst h1 h3
    refine ⟨by rw [List.length_take]; omega, .inr ⟨g, c, cur, rfl, hbg, hg, by omega, hcm, hcs, ?_⟩⟩
    rw [← ht, List.take_take]
    congr 1
    omega
section
variable {H : Nat → Prop} {w : World} {O : Nat} {d : OD}
structure BackMid (w : World) (O : Nat) (d : OD) (xs : List Value) (j : Nat) (W : World) : Prop where
  blk : Blk W O 29 #[rootV d.T, .map d.mb, .slice d.s.a d.us.length d.s.c]
  map : OvMap W d.mb (backA d.us d.C j)
  row : ∃ ys, W.ownsRow 0 1 1 (.slice d.s.a d.us.length d.s.c) d.us.length ys ∧ ∀ i, i < j → ys[i]? = xs[i]?
  sb : Sb (OvB O d) w W
def BackPost (H : Nat → Prop) (O : Nat) (d : OD) (m : Nat) (w : World) (e : Ending) (w' : World) : Prop :=
  e = .returned (.int .i64 0) ∧ OvTo H w O d ⟨d.T, d.mb, d.s, d.us.take m, d.Hs.take (m + 1), backA d.us d.C m⟩ w'
theorem back_end {m : Nat} (hm : m ≤ d.us.length) (h : OvAt H w O d) {xs : List Value} (hl : xs.length = d.us.length) (hun : ∀ (i : Nat) (u : UD) (v : Value), d.us[i]? = some u → xs[i]? = some v → UndoV w (OvF H w O d) O u v) {W : World} (hW : BackMid w O d xs m W) :
    OvTo H w O d ⟨d.T, d.mb, d.s, d.us.take m, d.Hs.take (m + 1), backA d.us d.C m⟩ (W.setCell ⟨O, 2, none⟩ (.slice d.s.a m d.s.c)) := by
  have hset : Sb (OvB O d) W (W.setCell ⟨O, 2, none⟩ (.slice d.s.a m d.s.c)) := (Sb.refl (OvB O d) W).set (p := ⟨O, 2, none⟩) (.inr (.inl rfl)) _
  have hall := hW.sb.trans hset
  have hset1 : Sb (fun c => c = O) W (W.setCell ⟨O, 2, none⟩ (.slice d.s.a m d.s.c)) := (Sb.refl (fun c => c = O) W).set (p := ⟨O, 2, none⟩) (.inr rfl) _
  have ha : Agree (OvF H w O d) w (W.setCell ⟨O, 2, none⟩ (.slice d.s.a m d.s.c)) := fun i hi => hall.block i hi.1 hi.2.1
  have hmm : ∀ i, OvF H w O d i → OvF H (W.setCell ⟨O, 2, none⟩ (.slice d.s.a m d.s.c)) O ⟨d.T, d.mb, d.s, d.us.take m, d.Hs.take (m + 1), backA d.us d.C m⟩ i := fun i hi => ⟨Nat.lt_of_lt_of_le hi.1 hall.size, hi.2.1, hi.2.2⟩
  obtain ⟨ys, hys, hyx⟩ := hW.row
  have htl : (d.us.take m).length = m := by rw [List.length_take]; omega
  have hC : d.Hs[m]? = some (backA d.us d.C m) := h.hist.back h.last (d.us.length - m) m (by omega)
  have hch := h.hist.take hm
  have hbO : ∀ b, d.mb = some b → b ≠ O := fun b hb e => h.ne.1 (by rw [hb, e])
  have hrec : ∀ (A : List UD) (C : AL SV), (∀ p ∈ C, p.1.size ≤ maxLen ∧ SVok w (OvF H w O d) p.2) → (∀ u ∈ A, u.k.size ≤ maxLen ∧ ∀ o, u.old = some o → SVok w (OvF H w O d) o) → ∀ p ∈ A.foldr undo1 C, p.1.size ≤ maxLen ∧ SVok w (OvF H w O d) p.2 := by
    intro A C hC0
    induction A with
    | nil => intro _; exact hC0
    | cons u r ih =>
      intro hA p hp
      have ih' := ih fun x hx => hA x (List.mem_cons_of_mem _ hx)
      have hu := hA u (List.mem_cons_self ..)
      rw [List.foldr_cons, undo1] at hp
      cases ho : u.old with
      | none => rw [ho] at hp; exact ih' p (List.mem_filter.1 hp).1
      | some o =>
        rw [ho] at hp
        rcases mem_putA hp with rfl | hp
        · exact ⟨hu.1, hu.2 o ho⟩
        · exact ih' p hp
  refine ⟨⟨?_, ?_, ⟨ys.take m, ?_, ?_, ?_⟩, ?_, ?_, hch, ?_, ?_, backA_sorted h.sorted _ _, (h.tree.agree ha).mono hmm, h.ok, h.ne, h.out, ?_⟩, hall, fun b hb => .inl hb⟩
  · have := hW.blk.set_ 2 (.slice d.s.a m d.s.c)
    show Blk _ O _ #[_, _, .slice d.s.a (d.us.take m).length d.s.c]
    rw [htl]; exact this
  · exact hW.map.heap fun b hb => hset1.block b (hW.map.lt hb) (hbO b hb)
  · show (ys.take m).length = (d.us.take m).length
    have := hys.1
    rw [htl, List.length_take]; omega
  · show World.ownsRow _ 0 _ 1 (.slice d.s.a (d.us.take m).length d.s.c) (d.us.take m).length _
    rw [htl]
    exact own_agree (own_cut hys hm) hset1.agree fun b hb => ⟨(own_row hys hb).2, fun e => h.ne.2.1 (by rw [← e]; exact hb)⟩
  · intro i u v hu hv
    have hu : (d.us.take m)[i]? = some u := hu
    have hi : i < m := by have := (List.getElem?_eq_some_iff.1 hu).1; omega
    rw [List.getElem?_take_of_lt hi] at hu hv
    rw [hyx i hi] at hv
    exact ((hun i u v hu hv).agree ha).mono hmm
  · intro p hp
    have := hrec (d.us.drop m) d.C h.vals (fun u hu => h.olds u (List.mem_of_mem_drop hu)) p hp
    exact ⟨this.1, (this.2.agree ha).mono hmm⟩
  · intro u hu
    have := h.olds u (List.mem_of_mem_take hu)
    exact ⟨this.1, fun o ho => ((this.2 o ho).agree ha).mono hmm⟩
  · show (d.Hs.take (m + 1))[0]? = _
    rw [List.getElem?_take_of_lt (by omega)]; exact h.h0
  · show (d.Hs.take (m + 1))[(d.us.take m).length]? = _
    rw [htl, List.getElem?_take_of_lt (by omega)]; exact hC
  · intro hne
    exact h.some_ fun e => hne (by show d.us.take m = []; rw [e]; exact List.take_nil)
theorem back_step {xs : List Value} {j g b : Nat} (h : OvAt H w O d) (hb : d.mb = some b) (hg : d.s.a = some ⟨g, 0, none⟩) {u : UD} (hu : d.us[j]? = some u) {W W1 : World} (hW : BackMid w O d xs (j + 1) W) (hm : OvMap W1 (some b) (undo1 u (backA d.us d.C (j + 1)))) (hs : Sb (fun c => c = b) W W1) :
    BackMid w O d xs j (W1.setCell ⟨g, j, none⟩ Value.nilFunc) := by
  have hj : j < d.us.length := (List.getElem?_eq_some_iff.1 hu).1
  have hrow : d.s.row = some g := by rw [Sl.row, hg]; rfl
  have hgb : g ≠ b := fun e => h.ne.2.2 b hb (by rw [hrow, e])
  have hgO : g ≠ O := fun e => h.ne.2.1 (by rw [hrow, e])
  have hbO : b ≠ O := fun e => h.ne.1 (by rw [hb, e])
  obtain ⟨ys, hys, hyx⟩ := hW.row
  have hown1 : W1.ownsRow 0 1 1 (.slice d.s.a d.us.length d.s.c) d.us.length ys := own_agree hys hs.agree fun i hi => ⟨(own_row hys hi).2, fun e => hgb (by rw [hrow] at hi; injection hi with hi; omega)⟩
  have hset : Sb (fun c => c = g) W1 (W1.setCell ⟨g, j, none⟩ Value.nilFunc) := (Sb.refl (fun c => c = g) W1).set (p := ⟨g, j, none⟩) (.inr rfl) _
  refine ⟨hset.blk (hs.blk hW.blk fun e => hbO e.symm) fun e => hgO e.symm, ?_, ⟨ys.set j Value.nilFunc, ?_, fun i hi => ?_⟩, ?_⟩
  · rw [hb, backA_step hu]
    exact hm.heap fun i hi => by
      injection hi with hi
      subst hi
      exact hset.block b (hm.lt rfl) fun e => hgb e.symm
  · rw [hg] at hown1 ⊢
    exact own_set hown1 hj _
  · rw [List.getElem?_set_ne (by omega)]
    exact hyx i (by omega)
  · exact (hW.sb.trans (hs.mono fun i _ e => .inr (.inl (by rw [hb, e])))).trans (hset.mono fun i _ e => .inr (.inr (by rw [hrow, e])))
end
theorem run_store_nilF (P : Program) (w : World) (a : Addr) (m : Mode) : (store a Value.nilFunc m).run P w = stored P w a Value.nilFunc m := run_store P w a _ m rfl
attribute [local go_sem] run_store_nilF
theorem own_cell {w : World} {base e n c g : Nat} {xs : List Value} (h : w.ownsRow base e 1 (.slice (some ⟨g, 0, none⟩) n c) n xs) {i : Nat} {u : Value} (hx : xs[i]? = some u) : w.cell? ⟨g, i, none⟩ = some u ∧ (n ≤ c ∧ c ≤ maxLen) ∧ g < w.heap.size ∧ w.frozen? ⟨g, i, none⟩ = false := by
  rcases h.2 with ⟨hv, h0⟩ | ⟨g', cap, cur, hv, hbg, hg, hnc, hcm, hcs, ht⟩
  · cases hv
  · injection hv with h1 h2 h3
    injection h1 with h1
    injection h1 with h1
    subst h1 h3
    have hi : i < n := by have := (List.getElem?_eq_some_iff.1 hx).1; have := h.1; omega
    have hb : Blk w g e cur := hg
    refine ⟨?_, ⟨hnc, hcm⟩, hb.lt, hb.frozen i⟩
    rw [hb.cell i]
    rw [← ht, List.getElem?_take_of_lt (by omega)] at hx
    simpa using hx
theorem back_no {H : Nat → Prop} {w : World} {O : Nat} {d : OD} (h : OvAt H w O d) {m : Int} (hm : m < 0 ∨ (d.us.length : Int) < m) : Calls Tryz.prog 20 #[.pointer (some ⟨O, 0, none⟩), .int .i64 m] w fun e w' => e = .returned (.int .i64 17) ∧ Ext w w' := by
  have c2 : w.cell? ⟨O, 2, none⟩ = some (.slice d.s.a d.us.length d.s.c) := h.blk.cell 2
  clear h
  by_cases hm0 : m < 0
  · have g0 : decide (m < 0) = true := decide_eq_true hm0
    go_enter Tryz.func20, Tryz.ntmps20
    go_wp2_with fail
    go_ret
    exact ⟨rfl, Ext.refl w⟩
  · have g0 : decide (m < 0) = false := decide_eq_false hm0
    have g1 : decide ((d.us.length : Int) < m) = true := decide_eq_true (by omega)
    go_enter Tryz.func20, Tryz.ntmps20
    go_wp2_with fail
    go_ret
    exact ⟨rfl, Ext.refl w⟩
theorem back_nil (w : World) (m : Int) : Calls Tryz.prog 20 #[.pointer none, .int .i64 m] w fun e w' => e = .returned (.int .i64 1) ∧ Ext w w' := by
  go_enter Tryz.func20, Tryz.ntmps20
  go_wp2_with fail
  go_ret
  exact ⟨rfl, Ext.refl w⟩
theorem back_ov {H : Nat → Prop} {w : World} {O : Nat} {d : OD} (h : OvAt H w O d) (hn : d.us.length ≤ 1000000) {m : Nat} (hm : m ≤ d.us.length) : Calls Tryz.prog 20 #[.pointer (some ⟨O, 0, none⟩), .int .i64 (m : Int)] w (BackPost H O d m w) := by
  have c2 : w.cell? ⟨O, 2, none⟩ = some (.slice d.s.a d.us.length d.s.c) := h.blk.cell 2
  have lO := h.blk.lt
  obtain ⟨xs, hl, hown, hun⟩ := h.row
  have g0 : decide ((m : Int) < 0) = false := decide_eq_false (by omega)
  have g1 : decide ((d.us.length : Int) < (m : Int)) = false := decide_eq_false (by omega)
  have g1' : decide (d.us.length < m) = false := decide_eq_false (by omega)
  have hst : BackMid w O d xs d.us.length w := ⟨h.blk, by rw [backA_end]; exact h.map, ⟨xs, hown, fun _ _ => rfl⟩, Sb.refl _ _⟩
  have HAT := Lib.hid h
  have HUN := Lib.hid hun
  have HL := Lib.hid hl
  have HST := Lib.hid hst
  clear h hun hl hst hown
  go_enter Tryz.func20, Tryz.ntmps20
  go_wp2_with fail
  go_loopw [5] (fun q wr => ∃ (j : Nat) (i : Int), q = .int .i64 i ∧ i + 1 = (j : Int) ∧ m ≤ j ∧ j ≤ d.us.length ∧ BackMid w O d xs j wr) (fun q _ => (intOf q + 1).toNat)
  case atStart => exact ⟨d.us.length, _, rfl, by omega, hm, Nat.le_refl _, HST.out⟩
  case round =>
    obtain ⟨j, i, rfl, hij, hmj, hjl, hW⟩ := hrel
    by_cases hlt : m < j
    · obtain ⟨j, rfl⟩ : ∃ k, j = k + 1 := ⟨j - 1, by omega⟩
      obtain rfl : i = (j : Int) := by omega
      have g2 : decide ((m : Int) ≤ (j : Int)) = true := decide_eq_true (by omega)
      have hu : d.us[j]? = some d.us[j] := List.getElem?_eq_getElem (by omega)
      obtain ⟨u, hue⟩ : ∃ u, d.us[j] = u := ⟨_, rfl⟩
      rw [hue] at hu
      obtain ⟨v, hv⟩ : ∃ v, xs[j]? = some v := ⟨_, List.getElem?_eq_getElem (by have := HL.out; omega)⟩
      obtain ⟨b, hb⟩ := HAT.out.some_ (fun e => by rw [e] at hu; simp at hu)
      obtain ⟨bw, bd, bo, bk, o, rfl, ⟨fw, fd, fo, fk⟩, kw, kd, ho, ko, kk⟩ := HUN.out j u v hu hv
      obtain ⟨ys, hys, hyx⟩ := hW.row
      have hyv : ys[j]? = some (undoC bw bd bo bk) := by rw [hyx j (by omega)]; exact hv
      obtain ⟨g, ha⟩ : ∃ g, d.s.a = some ⟨g, 0, none⟩ := by
        rcases hys.2 with ⟨-, h0⟩ | ⟨g, cap, cur, hv, -⟩
        · omega
        · injection hv with h1
          exact ⟨g, h1⟩
      rw [ha] at hys
      obtain ⟨cj, ⟨hnc, hcm⟩, lg, fj⟩ := own_cell hys hyv
      have b2 : wr.cell? ⟨O, 2, none⟩ = some (.slice d.s.a d.us.length d.s.c) := hW.blk.cell 2
      rw [ha] at b2
      have lW := hW.blk.lt
      have hblk : Blk wr O 29 #[rootV d.T, .map (some b), .slice d.s.a d.us.length d.s.c] := by rw [← hb]; exact hW.blk
      have hmap : OvMap wr (some b) (backA d.us d.C (j + 1)) := by rw [← hb]; exact hW.map
      have hun1 := undo1_any hblk hmap (backA_sorted HAT.out.sorted d.us (j + 1)) (by have := HAT.out.hist.short HAT.out.h0 _ _ (HAT.out.hist.back HAT.out.last (d.us.length - (j + 1)) (j + 1) (by omega)); unfold maxLen; omega) (HAT.out.olds u (List.mem_of_getElem? hu)).1 (hW.sb.blk kw fw.2.1) (hW.sb.blk kd fd.2.1) ho (hW.sb.blk ko fo.2.1) (hW.sb.blk kk fk.2.1)
      have hrg : d.s.row = some g := by rw [Sl.row, ha]; rfl
      have hgb : ¬ g = b := fun e => HAT.out.ne.2.2 b hb (by rw [hrg, e])
      have hOb : ¬ O = b := fun e => HAT.out.ne.1 (by rw [hb, e])
      have HW := Lib.hid hW
      have HU := Lib.hid hu
      have HB := Lib.hid hb
      have HA := Lib.hid ha
      have HUN1 := Lib.hid hun1
      have j0 : (0 : Int) ≤ (j : Int) := by omega
      have j1 : (j : Int) < (d.us.length : Int) := by omega
      have fj2 : ∀ W, Sb (fun c => c = b) wr W → W.frozen? ⟨g, j, none⟩ = false ∧ W.cell? ⟨g, j, none⟩ = some (undoC bw bd bo bk) ∧ W.cell? ⟨O, 2, none⟩ = some (.slice (some ⟨g, 0, none⟩) d.us.length d.s.c) ∧ g < W.heap.size := fun W hS =>
        ⟨(World.frozen?_of_block (hS.block g lg hgb)).trans fj, (hS.cell lg hgb).trans cj, (hS.cell lW hOb).trans b2, Nat.lt_of_lt_of_le lg hS.size⟩
      have FJ := Lib.hid fj2
      clear hW hij c2 hu hue hv hb fw fd fo fk kw kd ho ko kk hys hyx hyv ha hblk hmap hun1 hrg hgb hOb fj2 HST
      go_wp2_with (go_at_call 62; refine (HUN1.out).mono ?_; rintro e w1 ⟨⟨r, rfl⟩, hm1, hs1⟩; obtain ⟨f1, c1, b3, l1⟩ := FJ.out w1 hs1; have HM1 := Lib.hid hm1; have HS1 := Lib.hid hs1; clear hm1 hs1 FJ)
      go_roundw
      case rel => exact ⟨j, (j : Int) - 1, by go_num, by omega, by omega, by omega, back_step HAT.out HB.out HA.out HU.out HW.out HM1.out HS1.out⟩
      case measure => simp [intOf]
    · obtain rfl : j = m := by omega
      have g2 : decide ((j : Int) ≤ i) = false := decide_eq_false (by omega)
      have b2 : wr.cell? ⟨O, 2, none⟩ = some (.slice d.s.a d.us.length d.s.c) := hW.blk.cell 2
      have f2 := hW.blk.frozen 2
      have lW := hW.blk.lt
      have HW := Lib.hid hW
      clear hW hij c2
      have hca : (d.s.a = none ∧ d.us.length = 0 ∧ d.s.c = 0) ∨ ∃ g, d.s.a = some ⟨g, 0, none⟩ ∧ d.us.length ≤ d.s.c ∧ d.s.c ≤ maxLen := by
        obtain ⟨ys, hys, -⟩ := HW.out.row
        rcases hys.2 with ⟨hv, h0⟩ | ⟨g, cap, cur, hv, -, -, hnc, hcm, -⟩
        · injection hv with h1 h2 h3
          exact .inl ⟨h1, h0, h3⟩
        · injection hv with h1 h2 h3
          exact .inr ⟨g, h1, by rw [h3]; exact hnc, by rw [h3]; exact hcm⟩
      rcases hca with ⟨ha, hz, hc⟩ | ⟨g, ha, hnc, hcm⟩
      · obtain rfl : j = 0 := by omega
        have HA := Lib.hid ha
        have HC := Lib.hid hc
        have HZ := Lib.hid hz
        rw [ha, hz, hc] at b2
        clear ha hc hz
        have g3 : decide ((0 : Int) ≤ i) = false := g2
        go_wp2_with fail
        refine bodyPost_ret (v := .int .i64 0) (by simp [results, Tryz.results20, go_sem]) rfl ?_
        have hend := back_end hm HAT.out HL.out HUN.out HW.out
        rw [HA.out, HC.out] at hend
        exact ⟨rfl, hend⟩
      · rw [ha] at b2
        have HA := Lib.hid ha
        clear ha
        have k0 : (0 : Int) ≤ (j : Int) := by omega
        have k1 : (j : Int) ≤ (d.s.c : Int) := by omega
        go_wp2_with fail
        refine bodyPost_ret (v := .int .i64 0) (by simp [results, Tryz.results20, go_sem]) rfl ?_
        have hend := back_end hm HAT.out HL.out HUN.out HW.out
        rw [HA.out] at hend
        exact ⟨rfl, hend⟩
end Go.Proofs.YtechahocffcbpaaGreatDoor
namespace Go.Proofs.YtechahocffcbpaaGreatDoor
set_option linter.unusedVariables false
def inI (lo hi : ByteArray) (op : Bool) (e : Ent) : Bool := !(klt e.1 lo) && (op || klt e.1 hi)
def rangeE (lo hi : ByteArray) (op : Bool) (es : List Ent) : List Ent := es.filter (inI lo hi op)
theorem rangeE_app (lo hi : ByteArray) (op : Bool) (a b : List Ent) : rangeE lo hi op (a ++ b) = rangeE lo hi op a ++ rangeE lo hi op b := List.filter_append ..
theorem rangeE_below {lo hi : ByteArray} {op : Bool} {es : List Ent} (h : ∀ e ∈ es, klt e.1 lo = true) : rangeE lo hi op es = [] :=
  List.filter_eq_nil_iff.2 fun e he => by simp [inI, h e he]
def endI (hi : ByteArray) (op : Bool) (k : ByteArray) : Bool := !op && !(klt k hi)
theorem rangeE_above {lo hi : ByteArray} {op : Bool} {es : List Ent} (h : ∀ e ∈ es, endI hi op e.1 = true) : rangeE lo hi op es = [] :=
  List.filter_eq_nil_iff.2 fun e he => by
    have := h e he
    simp only [endI, Bool.and_eq_true, Bool.not_eq_true'] at this
    simp [inI, this.1, this.2]
theorem endI_up {hi : ByteArray} {op : Bool} {a b : ByteArray} (h : endI hi op a = true) (hab : klt a b = true) : endI hi op b = true := by
  simp only [endI, Bool.and_eq_true, Bool.not_eq_true'] at h ⊢
  refine ⟨h.1, ?_⟩
  cases hb : klt b hi
  · rfl
  · rw [klt_trans hab hb] at h; cases h.2
theorem rangeE_one {lo hi : ByteArray} {op : Bool} {e : Ent} (h1 : klt e.1 lo = false) (h2 : endI hi op e.1 = false) : rangeE lo hi op [e] = [e] := by
  have : inI lo hi op e = true := by
    simp only [endI, Bool.and_eq_false_iff, Bool.not_eq_false'] at h2
    rcases h2 with h2 | h2 <;> simp [inI, h1, h2]
  simp [rangeE, this]
theorem rangeE_behind {lo hi : ByteArray} {op : Bool} {A B : List Ent} (hs : Sorted (A ++ B)) (h : ∃ e ∈ A, endI hi op e.1 = true) : rangeE lo hi op B = [] := by
  obtain ⟨e, he, h⟩ := h
  exact rangeE_above fun x hx => endI_up h ((sorted_app hs).2.2 e he x hx)
theorem le_last {es : List Ent} (hs : Sorted es) {e : Ent} (he : e ∈ es) : klt (lastK es) e.1 = false := by
  have hne : es ≠ [] := by rintro rfl; cases he
  rcases List.eq_nil_or_concat es with rfl | ⟨a, x, rfl⟩
  · exact absurd rfl hne
  · rw [List.concat_eq_append] at hs he
    have hl : lastK (a.concat x) = x.1 := by simp [lastK]
    rw [hl]
    rcases List.mem_append.1 he with h | h
    · exact klt_asymm ((sorted_app hs).2.2 e h x (List.mem_singleton.2 rfl))
    · rw [List.mem_singleton.1 h]; exact klt_irrefl _
theorem first_le {es : List Ent} (hs : Sorted es) {e : Ent} (he : e ∈ es) : klt e.1 (firstK es) = false := by
  cases es with
  | nil => cases he
  | cons x es =>
    show klt e.1 x.1 = false
    rcases List.mem_cons.1 he with rfl | h
    · exact klt_irrefl _
    · exact klt_asymm ((List.pairwise_cons.1 hs).1 e h)
theorem lt_of_last {es : List Ent} (hs : Sorted es) {lo : ByteArray} (h : klt (lastK es) lo = true) : ∀ e ∈ es, klt e.1 lo = true := fun e he => klt_of_ge_lt (le_last hs he) h
theorem end_of_first {es : List Ent} (hs : Sorted es) {hi : ByteArray} {op : Bool} (h : endI hi op (firstK es) = true) : ∀ e ∈ es, endI hi op e.1 = true := fun e he => by
  simp only [endI, Bool.and_eq_true, Bool.not_eq_true'] at h ⊢
  refine ⟨h.1, ?_⟩
  cases hb : klt e.1 hi
  · rfl
  · have := klt_of_ge_lt (first_le hs he) hb
    rw [h.2] at this; cases this
def endL : List UInt8 → Option (List UInt8)
  | [] => none
  | b :: t => match endL t with
    | some e => some (b :: e)
    | none => if b = 255 then none else some [b + 1]
theorem bl_nil (k : List UInt8) : Op.bytesLess k [] = false := by cases k <;> rfl
theorem u8_lt_succ {b c : UInt8} (hb : b ≠ 255) : (c < b + 1) ↔ (c < b ∨ c = b) := by
  have h1 : (b + 1).toNat = b.toNat + 1 := by
    rw [UInt8.toNat_add]
    have : b.toNat ≠ 255 := fun e => hb (UInt8.toNat_inj.1 e)
    have := b.toNat_lt
    show (b.toNat + 1) % 256 = _
    omega
  rw [UInt8.lt_iff_toNat_lt, UInt8.lt_iff_toNat_lt, h1, ← UInt8.toNat_inj]
  omega
theorem begins_iff : ∀ p k : List UInt8, (p.isPrefixOf k) = (!(Op.bytesLess k p) && (match endL p with | none => true | some e => Op.bytesLess k e))
  | [], k => by simp [bl_nil, endL, List.isPrefixOf]
  | b :: t, [] => by simp [Op.bytesLess, List.isPrefixOf]
  | b :: t, c :: s => by
    have ih := begins_iff t s
    simp only [List.isPrefixOf, Op.bytesLess, endL]
    by_cases hlt : c < b
    · have hne : (b == c) = false := beq_eq_false_iff_ne.2 (by rintro rfl; exact absurd hlt (UInt8.lt_irrefl _))
      simp [hlt, hne]
    · by_cases he : c = b
      · subst he
        cases hE : endL t with
        | some e =>
          rw [hE] at ih
          simp [Op.bytesLess, ih, UInt8.lt_irrefl]
        | none =>
          rw [hE] at ih
          by_cases h255 : c = 255
          · subst h255; simp [ih, UInt8.lt_irrefl]
          · have h1 : c < c + 1 := (u8_lt_succ h255).2 (.inr rfl)
            simp [Op.bytesLess, ih, UInt8.lt_irrefl, h255, h1]
      · have hne : (b == c) = false := beq_eq_false_iff_ne.2 fun e => he e.symm
        have hne' : (c == b) = false := beq_eq_false_iff_ne.2 he
        simp only [hne, Bool.false_and, hlt, decide_false, hne', Bool.or_self, Bool.not_false, Bool.true_and]
        cases hE : endL t with
        | some e => simp [Op.bytesLess, hlt, hne']
        | none =>
          by_cases h255 : b = 255
          · exfalso
            subst h255
            have h1 := UInt8.not_lt.1 hlt
            have h2 : c ≤ 255 := UInt8.le_iff_toNat_le.2 (by have := c.toNat_lt; show c.toNat ≤ 255; omega)
            exact he (UInt8.le_antisymm h2 h1)
          · have h1 : ¬ c < b + 1 := fun h => by
              rcases (u8_lt_succ h255).1 h with h | h
              · exact hlt h
              · exact he h
            simp [h255, Op.bytesLess, h1, bl_nil]
theorem endL_ff : ∀ n : Nat, endL (List.replicate n 255) = none
  | 0 => rfl
  | n + 1 => by rw [List.replicate_succ, endL, endL_ff n]; rfl
theorem endL_at {b : UInt8} (hb : b ≠ 255) (n : Nat) : ∀ a : List UInt8, endL (a ++ b :: List.replicate n 255) = some (a ++ [b + 1])
  | [] => by rw [List.nil_append, endL, endL_ff]; simp [hb]
  | x :: a => by rw [List.cons_append, endL, endL_at hb n a]; rfl
end Go.Proofs.YtechahocffcbpaaGreatDoor
namespace Go.Proofs.YtechahocffcbpaaGreatDoor
open Go.RowKit
set_option linter.unusedVariables false
set_option linter.unusedSimpArgs false
abbrev inV (lo hi : ByteArray) (op : Bool) : Value := .agg #[.string lo, .string hi, .bool op]
theorem ends_any (w : World) (lo hi : ByteArray) (op : Bool) (k : ByteArray) : Calls Tryz.prog 172 #[inV lo hi op, .string k] w fun e w' => e = .returned (.bool (endI hi op k)) ∧ Ext w w' := by
  cases op
  · go_enter Tryz.func172, Tryz.ntmps172
    go_wp2_with fail
    go_ret
    exact ⟨rfl, (Ext.refl w).alloc _ _⟩
  · go_enter Tryz.func172, Tryz.ntmps172
    go_wp2_with fail
    go_ret
    exact ⟨rfl, (Ext.refl w).alloc _ _⟩
structure LeafC (At : World → Prop) (nv : Value) (es : List Ent) : Prop where
  ext : ∀ {W W'}, At W → Ext W W' → At W'
  ptr : ∃ p, nv = .pointer p
  height : ∀ W, At W → Calls Tryz.prog 69 #[nv] W fun e w' => e = .returned (.int .i64 0) ∧ W = w'
  size : ∀ W, At W → Calls Tryz.prog 73 #[nv] W fun e w' => e = .returned (.int .i64 es.length) ∧ ∃ q, w' = W.drewN q
  kids : ∀ W, At W → Calls Tryz.prog 70 #[nv] W fun e w' => e = .returned (.slice none 0 0) ∧ W = w'
  entry : ∀ W, At W → ∀ (i : Nat) (e : Ent), es[i]? = some e → Calls Tryz.prog 75 #[nv, .int .i64 i] W (EntryPost e.1 e.2 W)
  none : ∀ W, At W → ∀ i : Int, (i < 0 ∨ es.length ≤ i) → Calls Tryz.prog 75 #[nv, .int .i64 i] W fun e w' => e = .returned (.tuple #[aggE ByteArray.empty zeroV Sl.none Sl.none, .bool false]) ∧ Ext W w'
  sorted : Sorted es
  few : es.length ≤ 8
def NodeAt (F : Nat → Prop) (h : Nat) (t : PT h) (W : World) : Prop := IsN W F h t ∧ ∀ b, F b → b < W.heap.size
theorem NodeAt.ext {F : Nat → Prop} {h : Nat} {t : PT h} {W W' : World} (a : NodeAt F h t W) (k : Ext W W') : NodeAt F h t W' := ⟨a.1.agree (k.agree a.2), fun b hb => Nat.lt_of_lt_of_le (a.2 b hb) k.size⟩
theorem NodeAt.lt {F : Nat → Prop} {h : Nat} {t : PT h} {W : World} (a : NodeAt F h t W) : IsN W (Lt W.heap.size) h t := a.1.mono a.2
theorem leafC_node {F : Nat → Prop} {t : PT 0} (ok : OkT 0 t) (hs : Sorted (ents 0 t)) : LeafC (NodeAt F 0 t) (ptr 0 t) (ents 0 t) where
  ext := NodeAt.ext
  ptr := ⟨_, rfl⟩
  height W a := height_any a.1
  size W a := size_any a.1 (Nat.le_trans (show (ents 0 t).length ≤ 8 from ok) (by decide))
  kids W a := kids_leaf a.1
  entry W a i e h := entry_any a.lt h
  none W a i h := entry_none a.lt h
  sorted := hs
  few := ok
theorem leafC_nil : LeafC (fun _ => True) (.pointer none) [] where
  ext _ _ := trivial
  ptr := ⟨_, rfl⟩
  height W _ := height_nil W
  size W _ := (size_nil W).mono fun e w' ⟨h1, h2⟩ => ⟨h1, 0, h2.symm⟩
  kids W _ := kids_nil W
  entry W _ i e h := by simp at h
  none W _ i _ := entry_nil W i
  sorted := List.Pairwise.nil
  few := by simp
/-- The closure of below. -/
theorem below1_any {W : World} {nv : Value} {b1 b2 : Nat} {k k' : ByteArray} {v : Val} {i : Nat} (h1 : W.cell? ⟨b1, 0, none⟩ = some nv) (h2 : W.cell? ⟨b2, 0, none⟩ = some (.string k))
    (hp : ∃ p, nv = .pointer p) (hc : Calls Tryz.prog 75 #[nv, .int .i64 i] W (EntryPost k' v W)) :
    Calls Tryz.prog 206 #[.int .i64 i, .pointer (some ⟨b1, 0, none⟩), .pointer (some ⟨b2, 0, none⟩)] W fun e w' => e = .returned (.bool !(klt k' k)) ∧ Ext W w' := by
  obtain ⟨p, rfl⟩ := hp
  have hb2 := World.block_lt_of_cell? W _ h2
  go_enter Tryz.func206, Tryz.ntmps206
  go_wp2_with fail
  refine hc.mono ?_
  rintro e w1 ⟨sl, so, rfl, hx, -⟩
  have q2 := (hx.cell hb2).trans h2
  have l2 : b2 < w1.heap.size := Nat.lt_of_lt_of_le hb2 hx.size
  have HX := Lib.hid hx
  clear hc hx h2
  go_wp2
  go_ret
  exact ⟨rfl, HX.out.alloc _ _⟩
theorem below_any {At : World → Prop} {nv : Value} {es : List Ent} (hc : LeafC At nv es) {w : World} (hw : At w) (k : ByteArray) : Calls Tryz.prog 191 #[nv, .string k] w fun e w' => e = .returned (.int .i64 (posE es k)) ∧ Ext w w' := by
  obtain ⟨pp, rfl⟩ := hc.ptr
  have hl := hc.few
  have hsr : ∀ W, Ext w W → W.cell? ⟨w.heap.size, 0, none⟩ = some (.pointer pp) → W.cell? ⟨w.heap.size + 1, 0, none⟩ = some (.string k) → Calls Tryz.prog 72 #[.int .i64 es.length, .func (.func 206) #[] #[.pointer (some ⟨w.heap.size, 0, none⟩), .pointer (some ⟨w.heap.size + 1, 0, none⟩)]] W (SearchPost es.length (fun i => !(klt ((es[i]?.map Prod.fst).getD ByteArray.empty) k)) W) := by
    intro W hW c1 c2
    refine search_any 206 _ _ es.length _ W (enters_of Tryz.func206 (by kernel_rfl) rfl) (by omega) ?_ ?_
    · intro i W' hi hW'
      obtain ⟨x, hx⟩ : ∃ x, es[i]? = some x := ⟨_, List.getElem?_eq_getElem hi⟩
      rw [hx]
      exact below1_any ((hW'.cell (World.block_lt_of_cell? W _ c1)).trans c1) ((hW'.cell (World.block_lt_of_cell? W _ c2)).trans c2) ⟨_, rfl⟩ (hc.entry W' (hc.ext (hc.ext hw hW) hW') i x hx)
    · intro i j hij hj hpi
      by_cases hij' : i = j
      · subst hij'; exact hpi
      · obtain ⟨x, hx⟩ : ∃ x, es[i]? = some x := ⟨_, List.getElem?_eq_getElem (by omega)⟩
        obtain ⟨y, hy⟩ : ∃ y, es[j]? = some y := ⟨_, List.getElem?_eq_getElem hj⟩
        have hxy := sorted_lt hc.sorted (i := i) (j := j) (by omega) hx hy
        rw [hx] at hpi; rw [hy]
        simp only [Option.map_some, Option.getD_some, Bool.not_eq_true'] at hpi ⊢
        cases hyk : klt y.1 k
        · rfl
        · have := klt_trans hxy hyk
          rw [hpi] at this; cases this
  have HC := Lib.hid hc
  have HSR := Lib.hid hsr
  have HW := Lib.hid hw
  clear hc hsr hw
  go_enter Tryz.func191, Tryz.ntmps191
  go_wp2_with fail
  generalize hW0 : World.alloc _ _ = W0
  obtain ⟨hx0, hz0, hb0, hb1⟩ := two_blocks w _ _ _ _ W0 hW0
  have q0 : W0.cell? ⟨w.heap.size, 0, none⟩ = some (.pointer pp) := hb0.cell 0
  have HX0 := Lib.hid hx0
  have HB0 := Lib.hid hb0
  have HB1 := Lib.hid hb1
  clear hW0 hb0 hb1 hx0 hz0
  refine (HC.out.size W0 (HC.out.ext HW.out HX0.out)).mono ?_
  rintro e w1 ⟨rfl, q, rfl⟩
  clear q0
  go_wp2_with fail
  refine (HSR.out _ (HX0.out.drewN q) (HB0.out.cell 0) (HB1.out.cell 0)).mono ?_
  rintro e w1 ⟨p, rfl, hp, hlo, hhi, he1⟩
  have hpos : posE es k = p := posE_of hp (fun i e hi he => by
      have : (!(klt ((es[i]?.map Prod.fst).getD ByteArray.empty) k)) = false := hlo i hi
      rw [he] at this
      simpa using this) (fun e he => by
      have : (!(klt ((es[p]?.map Prod.fst).getD ByteArray.empty) k)) = true := hhi p (Nat.le_refl _) (List.getElem?_eq_some_iff.1 he).1
      rw [he] at this
      simpa using this)
  have HE := Lib.hid ((HX0.out.drewN q).trans he1)
  have HP := Lib.hid hpos
  clear hlo hhi hpos he1
  go_wp2_with fail
  go_ret
  exact ⟨by rw [HP.out]; rfl, HE.out⟩
theorem kid_ne {h : Nat} {t : PT (h + 1)} (ok : OkT (h + 1) t) {kid : PT h} (hk : kid ∈ t.2) : ents h kid ≠ [] := by
  have h1 := ok.2.2 kid hk
  have := ents_pos h kid h1.1 (by omega)
  intro e; rw [e] at this; simp at this
def TreeAt (F : Nat → Prop) (T : RT) (W : World) : Prop := IsT W F T ∧ ∀ b, F b → b < W.heap.size
theorem TreeAt.ext {F : Nat → Prop} {T : RT} {W W' : World} (a : TreeAt F T W) (k : Ext W W') : TreeAt F T W' := ⟨a.1.agree (k.agree a.2), fun b hb => Nat.lt_of_lt_of_le (a.2 b hb) k.size⟩
end Go.Proofs.YtechahocffcbpaaGreatDoor
