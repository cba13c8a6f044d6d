/- What the theorem needs of the texts BackC, RoundE, Back9, Has: no condition of its own. -/
import Derived.Sort.LoopGhostIn
import Derived.RangeFuncNested
import Derived.RangeFuncBound
import Derived.RangeFuncCalls
import Derived.RangeFuncLeaves
import Derived.OwnWalkIn
import Derived.Test.YtpapoalgocmlaaaPda
import Derived.Test.YtpapoalgocmlaaaPdb
import Derived.Test.YtpapoalgocmlaaaPdc
import Derived.Test.YtpapoalgocmlaaaPdd
import Derived.Test.YtpapoalgocmlaaaPde
import Derived.Test.YtpapoalgocmlaaaPdf
import Derived.Test.YtpapoalgocmlaaaPdg
import Derived.Test.YtpapoalgocmlaaaPdh
import Derived.Test.YtpapoalgocmlaaaPdj
namespace Go.Proofs.Ytpapoalgocmlaaa
open Go.RowKit Go.Shelf
set_option linter.unusedVariables false
set_option linter.unusedSimpArgs false
attribute [local go_sem] Oper.semAt_some
theorem CS.agree9 {w w' : World} {F : Nat → Prop} {s : Sl} {xs : List CE} (h : CS w F s xs) (ha : Agree F w w') : CS w' F s xs := ⟨h.rd.agree ha, fun x hx => (h.vals x hx).agree ha, h.few⟩
theorem backC_any (w : World) (s : Sl) (n : Nat) : Calls Try.prog 126 #[.slice s.a n s.c] w fun e w' => e = .returned (.func (.func 166) #[] #[.pointer (some ⟨w.heap.size, 0, none⟩)]) ∧ Ext w w' ∧ Blk w' w.heap.size 131 #[.slice s.a n s.c] := by
  go_enter Try.func126, Try.ntmps126
  go_wp2_with fail
  go_ret
  exact ⟨rfl, (Ext.refl _).alloc _ _, Blk.new _ _ _⟩
abbrev encBC (x : Nat × CE) : Array Value := #[.int .i64 x.1, x.2.agg]
structure BackGC (vs : List CE) (pre : List (Nat × CE)) (x : Nat × CE) (W0 W1 : World) : Prop where
  at_ : x.1 + pre.length + 1 = vs.length
  val : vs[x.1]? = some x.2
  pre_ : pre.map Prod.snd = vs.reverse.take pre.length
theorem back_nextC {vs : List CE} {pre : List (Nat × CE)} {x : Nat × CE} {W0 W1 : World} (h : BackGC vs pre x W0 W1) : (pre ++ [x]).map Prod.snd = vs.reverse.take (pre ++ [x]).length := by
  have h1 := h.at_
  have h2 : vs.reverse[pre.length]? = some x.2 := by
    rw [List.getElem?_reverse (by omega), show vs.length - 1 - pre.length = x.1 from by omega]
    exact h.val
  rw [List.map_append, h.pre_, List.length_append, List.length_singleton, List.take_add_one, h2]
  rfl
structure BackSC (n : Nat) (vs : List CE) (J : List (Nat × CE) → (Nat → Prop) → World → Prop) (C : Nat → Prop) (W : World) (m : Nat) (pre : List (Nat × CE)) (C' : Nat → Prop) (Wj wr : World) : Prop where
  j : J pre C' Wj
  ext : Ext Wj wr
  len : m + pre.length = n
  pre_ : pre.map Prod.snd = vs.reverse.take pre.length
  st : St C W wr
  sub : ∀ b, C' b → C b ∨ W.heap.size ≤ b
set_option maxRecDepth 100000 in
set_option maxHeartbeats 4000000 in
theorem back_seqC {w0 : World} {B : Nat} {F : Nat → Prop} {s : Sl} {vs : List CE} (hb : Blk w0 B 131 #[.slice s.a vs.length s.c]) (hs : CS w0 F s vs) (hF : ∀ b, F b → b < w0.heap.size) (hl : vs.length ≤ 1000000) :
    SeqC Try.prog 166 #[.pointer (some ⟨B, 0, none⟩)] encBC (fun b => F b ∨ b = B) (BackGC vs) (fun xs => xs.map Prod.snd = vs.reverse) (fun _ => True) w0 := by
  intro l J Jx C W hTk hA hsz hCK hJ
  have hCl := hTk.lt [] C W hJ
  have hlB := hb.lt
  have hss : ∀ W1, St C W W1 → W1.cell? ⟨B, 0, none⟩ = some (.slice s.a vs.length s.c) ∧ CS W1 F s vs := fun W1 hW =>
    ⟨(hW.cell (by omega) fun h => hCK _ h (.inr rfl)).trans ((World.cell?_of_block (w := w0) (a := ⟨B, 0, none⟩) (hA B (.inr rfl))).trans (hb.cell 0)),
      hs.agree9 fun b hb => (hW.block b (by have := hF b hb; omega) fun h => hCK _ h (.inl hb)).trans (hA b (.inl hb))⟩
  obtain ⟨sa, sc⟩ := s
  dsimp only at hss
  have HTK := Lib.hid hTk
  have HSS := Lib.hid hss
  have HJ := Lib.hid hJ
  have c0 := (hss W (St.refl _ W)).1
  have lB : B < W.heap.size := by omega
  have HFW := Lib.hid (fun (b : Nat) (hb : F b) => Nat.lt_of_lt_of_le (hF b hb) hsz)
  have hl1 : (0 : Int) ≤ (vs.length : Int) := by omega
  clear hTk hA hCK hJ hb hs hss hCl hF
  show Calls _ _ #[.func (.yield l) #[] #[], .pointer (some ⟨B, 0, none⟩)] W _
  refine (callsIn_wide (n := 5)).1 ?_
  refine callsIn_of_wp Try.func166 rfl trivial ?_ rfl
  simp only [Try.ntmps166, List.size_toArray, List.length_cons, List.length_nil, Nat.reduceAdd, Nat.reduceSub, Array.replicate_succ, Array.replicate_zero, List.push_toArray, List.append_toArray, List.nil_append, List.cons_append]
  gi_wp2_with fail
  clear c0
  gi_loopw [3] (fun v wr => ∃ (m : Nat) (pre : List (Nat × CE)) (C' : Nat → Prop) (Wj : World), v = .int .i64 ((m : Int) - 1) ∧ BackSC vs.length vs J C W m pre C' Wj wr) (fun v _ => (intOf v + 1).toNat)
  case atStart => exact ⟨vs.length, [], C, W, rfl, ⟨HJ.out, Ext.refl _, by simp, by simp, St.refl _ _, fun b hb => .inl hb⟩⟩
  case round =>
    obtain ⟨m, pre, C', Wj, rfl, hS⟩ := hrel
    have HS := Lib.hid hS
    cases m with
    | zero =>
      have hlen : pre.length = vs.length := by have := hS.len; omega
      have hall : pre.map Prod.snd = vs.reverse := by rw [hS.pre_, hlen, List.take_of_length_le (by simp)]
      have HALL := Lib.hid hall
      clear hS hlen hall
      gi_wp2_with fail
      go_end0
      exact ⟨⟨_, rfl⟩, .inl ⟨pre, C', Wj, HALL.out, HS.out.j, HS.out.ext⟩⟩
    | succ k =>
      have e1 : (((k + 1 : Nat) : Int) - 1) = (k : Int) := by omega
      rw [e1]
      clear e1
      have hlen := hS.len
      obtain ⟨x, hvk⟩ : ∃ x, vs[k]? = some x := ⟨_, List.getElem?_eq_getElem (by omega)⟩
      obtain ⟨c0, hcs⟩ := HSS.out wr hS.st
      obtain ⟨b, o, hsa, lb, hcc, hcm, -, hcl⟩ := hcs.at hvk
      dsimp only at hsa hcc hcm
      subst hsa
      have lb : b < wr.heap.size := Nat.lt_of_lt_of_le (HFW.out b lb) hS.st.size
      obtain ⟨v0, v1, v2, v3, v4, v5, v6, v7, v8, v9, v10, v11, v12, v13, v14⟩ := c15_of hcl
      have hsw := hS.st.size
      have g0 : (0 : Int) ≤ (k : Int) := by omega
      have g1 : (k : Int) < (vs.length : Int) := by omega
      have hG : BackGC vs pre (k, x) Wj wr := ⟨by show k + pre.length + 1 = _; omega, hvk, hS.pre_⟩
      have hy := HTK.out.take pre C' (k, x) Wj wr hS.j hS.ext hG
      obtain ⟨fn, tmps, assign, body, hy, hR⟩ := hy
      have HR := Lib.hid hR
      have HN := Lib.hid (back_nextC hG)
      clear hS hG hR hcl hcs hvk
      dsimp only [encBC, CE.agg, CE.cells] at hy
      gi_wp2_with fail
      clear v0 v1 v2 v3 v4 v5 v6 v7 v8 v9 v10 v11 v12 v13 v14
      refine HR.out.mono ?_
      rintro e w6 (⟨rfl, C6, hj6, hst6, hsub6⟩ | ⟨rfl, hjx, hst6⟩)
      · have HS6 := Lib.hid (show BackSC vs.length vs J C W k (pre ++ [(k, x)]) C6 w6 w6 from ⟨hj6, Ext.refl _, by simp; omega, HN.out, HS.out.st.then hst6 (fun b hb h => by
          rcases HS.out.sub b h with h | h
          · exact h
          · omega), fun b hb => by
          rcases hsub6 b hb with h | h
          · exact HS.out.sub b h
          · exact .inr (by omega)⟩)
        clear hj6 hst6 hsub6 hy c0
        gi_wp2_with fail
        go_roundw
        case rel => exact ⟨k, _, C6, w6, by go_num, HS6.out⟩
        case measure => simp [intOf]
      · gi_wp2_with fail
        refine bodyPost_ret (v := .tuple #[]) (by simp [results, Try.results166, go_sem]) rfl ?_
        exact ⟨⟨_, rfl⟩, .inr ⟨_, w6, trivial, hjx, Ext.refl _⟩⟩
end Go.Proofs.Ytpapoalgocmlaaa
namespace Go.Proofs.Ytpapoalgocmlaaa
open Go.RowKit
set_option linter.unusedVariables false
def plainOpE (f : FuncId) : Op → Bool
  | .call c => match c.callee with
    | .value (.func k) => k == f
    | _ => plainOpD (.call c)
  | o => plainOpD o
theorem plain_rowE {P : Program} {f : FuncId} (eg : ∀ args w, (callFunc f args).run P w = .ok (.enter f args) w) {a : Act} {o : Oper} {w w' : World} (h : plainOpE f o.op = true) (row : String) (args : Array Value) : (execOp a.eval o).run P w ≠ .ok (.row row args) w' := by
  cases hd : plainOpD o.op with
  | true => exact plain_rowD hd row args
  | false =>
    cases ho : o.op with
    | call c =>
      rw [ho] at h hd
      cases hc : c.callee with
      | value v =>
        cases v with
        | func k =>
          simp only [plainOpE, hc] at h
          obtain rfl : k = f := by simpa using h
          unfold execOp
          intro h'
          simp [ho, resolve, hc, Act.eval, invoke, go_sem, eg] at h'
        | _ =>
          simp only [plainOpE, hc] at h
          rw [hd] at h; cases h
      | _ =>
        simp only [plainOpE, hc] at h
        rw [hd] at h; cases h
    | _ =>
      rw [ho] at h hd
      simp only [plainOpE] at h
      rw [hd] at h; cases h
theorem plain_no_deferE {f : FuncId} {o : Oper} (h : plainOpE f o.op = true) : ∀ c, o.op ≠ .defer c := fun c e => by rw [e] at h; simp [plainOpE, plainOpD] at h
theorem wpOpIn_of_plainE {P : Program} {f : FuncId} (eg : ∀ args w, (callFunc f args).run P w = .ok (.enter f args) w) {ops : Array Oper} {Q : Exit → Act → World → Prop} {l n : Nat} (hp : ∀ (i : Nat) (o : Oper), ops[i]? = some o → plainOpE f o.op = true) (hQ : ¬ LetsOut Q) {i : Nat} {K K' : Act → World → Prop} {a : Act} {w : World}
    (hK : ∀ a w, K a w → K' a w) (h : wpOp P ops Q i K a w) : wpOpIn (Fence.wide.inRound l) n P ops Q i K' a w := by
  unfold wpOp at h
  unfold wpOpIn
  cases ho : ops[i]? with
  | none => simp only [ho] at h ⊢; exact hK _ _ h
  | some o =>
    simp only [ho] at h ⊢
    split at h
    · rename_i hw
      rw [if_pos hw]
      rcases h with h | ⟨-, h⟩
      · unfold Oper.wpIn
        refine ⟨fun _ _ => trivial, ?_⟩
        rw [show (Fence.wide.inRound l).round = some l from rfl, Oper.semAt_some l _ o (plain_no_deferE (hp i o ho))]
        unfold Oper.wp at h
        have hr := fun row args w' => plain_rowE (P := P) eg (a := a) (w := w) (w' := w') (hp i o ho) row args
        generalize (execOp a.eval o).run P w = r at *
        cases r with
        | ok x w' =>
          cases x <;> simp only [Oper.upon, Oper.uponIn] at h ⊢
          case value v => exact hK _ _ h
          case skip => exact hK _ _ h
          case defer d => exact hK _ _ h
          case enter f args =>
            refine ⟨(fun hd => by simp [Fence.wide] at hd), (CallsIn.inRound l (callsIn_wide.2 h)).mono fun e w'' he => ?_⟩
            cases e with
            | returned v => exact hK _ _ he
            | panicked c => exact he
            | outgrown => exact he
          case row row args => exact absurd rfl (hr row args w')
        | halt x w' => cases x <;> simp only [Oper.upon, Oper.uponIn] at h ⊢ <;> exact h
      · exact absurd h hQ
    · rename_i hw
      rw [if_neg hw]
      exact ⟨fun _ _ => trivial, hK _ _ h⟩
theorem wpAnyIn_of_plainE {P : Program} {f : FuncId} (eg : ∀ args w, (callFunc f args).run P w = .ok (.enter f args) w) {md : Region.Mode} {ops : Array Oper} {Q : Exit → Act → World → Prop} {S : World → Prop} {l n : Nat} (hp : ∀ (i : Nat) (o : Oper), ops[i]? = some o → plainOpE f o.op = true) (hQ : ¬ LetsOut Q) :
    ∀ fuel listed a w, wpAnyH P md ops Q S fuel listed a w → wpAnyIn (Fence.wide.inRound l) n P md ops Q fuel listed a w := by
  intro fuel
  induction fuel with
  | zero => exact fun _ _ _ h => h
  | succ fuel ih =>
    intro listed a w h
    exact ⟨h.1, fun i hi => wpOpIn_of_plainE eg hp hQ (fun a' w' h' => ih _ a' w' h'.2) (h.2 i hi)⟩
theorem wpIn_region_roundE {P : Program} {f : FuncId} (eg : ∀ args w, (callFunc f args).run P w = .ok (.enter f args) w) {id l n : Nat} {ops : Array Oper} {Q : Exit → Act → World → Prop} {S : World → Prop} {a : Act} {w : World} (hp : (ops.all fun o => plainOpE f o.op) = true) (hQ : ¬ LetsOut Q) (hm : P.follows .mixedOrders = true) (hS : S w.drew)
    (h : S w.drew → wpAnyH P .any ops Q S ops.size (Array.replicate ops.size false) a w.drew) : (Code.region id ops true).wpIn (Fence.wide.inRound l) n P Q a w :=
  wpIn_region_any hm (wpAnyIn_of_plainE eg (fun i o ho => by
    have := Array.all_eq_true.1 hp i (Array.getElem?_eq_some_iff.1 ho).1
    rwa [(Array.getElem?_eq_some_iff.1 ho).2] at this) hQ _ _ _ _ (h hS))
end Go.Proofs.Ytpapoalgocmlaaa
namespace Go.Proofs.Ytpapoalgocmlaaa
open Go.RowKit Go.Shelf
set_option linter.unusedVariables false
set_option linter.unusedSimpArgs false
attribute [local go_sem] Oper.semAt_some
def BackPost (l : List Chg) (w : World) (e : Ending) (w' : World) : Prop :=
  ∃ (s : Sl) (xs : List CE), e = .returned (.slice s.a xs.length s.c) ∧ xs.map CE.c = backC l ∧ Ext w w' ∧ CS w' (In w.heap.size w'.heap.size) s xs
def S15 (b : Nat) (x : CE) (w : World) : Prop :=
  w.cell? ⟨b, 0, none⟩ = some (.string x.c.k) ∧ w.cell? ⟨b, 1, none⟩ = some (.bool x.c.had) ∧ w.cell? ⟨b, 2, none⟩ = some (.int .i64 x.c.was.kind) ∧ w.cell? ⟨b, 3, none⟩ = some (.bool x.c.was.b) ∧ w.cell? ⟨b, 4, none⟩ = some (.int .i64 x.c.was.i) ∧ w.cell? ⟨b, 5, none⟩ = some (.string x.c.was.t) ∧ w.cell? ⟨b, 6, none⟩ = some (.slice x.slw.a x.c.was.l.length x.slw.c) ∧ w.cell? ⟨b, 7, none⟩ = some (.slice x.sow.a x.c.was.ok.length x.sow.c) ∧
    w.cell? ⟨b, 8, none⟩ = some (.bool x.c.has) ∧ w.cell? ⟨b, 9, none⟩ = some (.int .i64 x.c.is_.kind) ∧ w.cell? ⟨b, 10, none⟩ = some (.bool x.c.is_.b) ∧ w.cell? ⟨b, 11, none⟩ = some (.int .i64 x.c.is_.i) ∧ w.cell? ⟨b, 12, none⟩ = some (.string x.c.is_.t) ∧ w.cell? ⟨b, 13, none⟩ = some (.slice x.sli.a x.c.is_.l.length x.sli.c) ∧ w.cell? ⟨b, 14, none⟩ = some (.slice x.soi.a x.c.is_.ok.length x.soi.c)
abbrev newC (x : CE) (li oi lw ow : Sl) : CE := ⟨turnC x.c, li, oi, lw, ow⟩
theorem s15_of {b : Nat} {x : CE} {w w' : World} (h : S15 b x w) (hc : ∀ o, w'.cell? ⟨b, o, none⟩ = w.cell? ⟨b, o, none⟩) : S15 b x w' := by
  unfold S15 at h ⊢
  simp only [hc]
  exact h
theorem s15_wr {w w' w'' : World} {row : Option Nat} {b : Nat} {x : CE} (h : Wr w' w'' row) (hx : Ext w w') (hn : row ≠ some b) (hl : b < w.heap.size) (hs : S15 b x w) : S15 b x w'' := s15_of hs fun o => (h.cell0 (o := o) hx hn hl).1
theorem s15_set {w : World} {b L : Nat} {x : CE} {v : Value} (hs : S15 b x w) (hn : ¬ b = L) : S15 b x (w.setCell ⟨L, 0, none⟩ v) := s15_of hs fun o => World.cell?_setCell_far _ _ _ _ (fun e => hn (by first | exact e | exact e.symm))
theorem Blk.s15 {w : World} {b : Nat} {t : TypeId} {x : CE} (h : Blk w b t x.cells) : S15 b x w := h.c15
set_option maxRecDepth 100000 in
set_option maxHeartbeats 8000000 in
theorem back9_any {w : World} {s : Sl} {cs : List CE} (hs : CS w (Lt w.heap.size) s cs) (hl : cs.length ≤ 1000000) : Calls Try.prog 82 #[.slice s.a cs.length s.c] w (BackPost (cs.map CE.c) w) := by
  obtain ⟨i0, hi, hz0, hz1, hz2⟩ := info_parts Try.infoChange
  obtain ⟨al, hal⟩ : ∃ al, cs.map CE.c = al := ⟨_, rfl⟩
  rw [hal]
  have HAL := Lib.hid hal
  have HS := Lib.hid hs
  clear hs hal
  refine (callsIn_wide (n := 6)).1 ?_
  refine callsIn_of_wp_marks Try.func82 rfl trivial ?_ rfl
  simp only [Try.ntmps82, List.size_toArray, List.length_cons, List.length_nil, Nat.reduceAdd, Nat.reduceSub, Array.replicate_succ, Array.replicate_zero, List.push_toArray, List.append_toArray, List.nil_append, List.cons_append]
  gi_wp2_with fail
  have hx0 := (Ext.refl w).alloc #[.slice none 0 0] 131
  have hb0 := Blk.new w 131 #[.slice none 0 0]
  have HX0 := Lib.hid hx0
  have HB0 := Lib.hid hb0
  have hz0l : w.heap.size + 1 ≤ (w.alloc (.cells #[.slice none 0 0] 131)).heap.size := by simp
  clear hx0 hb0
  refine ⟨trivial, ?_⟩
  refine (callsIn_wide.2 (backC_any _ s cs.length)).mono ?_
  generalize w.alloc (.cells #[.slice none 0 0] 131) = W0 at *
  rintro e w1 ⟨rfl, hx1, hbb⟩
  have HX1 := Lib.hid (HX0.out.trans hx1)
  have HL := Lib.hid (HB0.out.ext hx1)
  have hcs1 : CS w1 (Lt w.heap.size) s cs := HS.out.agree9 ((HX0.out.trans hx1).agree fun _ h => h)
  have HCS := Lib.hid hcs1
  have HSQ := Lib.hid (back_seqC hbb hcs1 (fun b (hb : b < w.heap.size) => Nat.lt_of_lt_of_le hb (HX0.out.trans hx1).size) hl)
  have hs1 := hx1.size
  have hL1 : w.heap.size < w1.heap.size := by omega
  have hB1 := hbb.lt
  clear hx1 hbb hcs1
  gi_wp2_with fail
  refine wpIn_rangeC (gf := 166) (lb := #[.pointer (some ⟨W0.heap.size, 0, none⟩)]) rfl (enters_of Try.func166 (by kernel_rfl) rfl) HSQ.out (Agree.refl _) (Nat.le_refl _)
    (fun b hb => hb.elim (fun (h : b < w.heap.size) => by omega) (fun h => by omega)) (fun _ => rfl)
    (fun pre C W => ∃ ys : List CE, CollC w1 w.heap.size ys C (fun _ => False) W ∧ ys.map CE.c = pre.map (fun q => turnC q.2.c) ∧ ys.length = pre.length ∧ pre.length ≤ 1000000) (fun _ _ _ => False) (fun b => b = w.heap.size)
    (fun b hb => ⟨by omega, fun h => h.elim (fun (h : b < w.heap.size) => by omega) (fun h => by omega)⟩)
    (fun h k => by obtain ⟨ys, h1, h2⟩ := h; exact ⟨ys, h1.turn hL1 k, h2⟩) (fun h k => h) (fun W hW hz => ⟨[], CollC.start HL.out hW hz, rfl, rfl, by simp⟩) ?round ?done ?stop
  case stop =>
    rintro D c pre W hD hSp hX
    exact hX.elim
  case round =>
    rintro pre C q W0' W1 ⟨ys, hcoll, hmap, hyl, hpl⟩ hlt hsz hnL hx01 hG
    obtain ⟨⟨s9, rfl, hblk, hown⟩, -, -, -, -, -⟩ := id hcoll
    obtain ⟨qi, x⟩ := q
    have hpl' : pre.length < cs.length := by have := hG.at_; dsimp only at this; omega
    have hxm : cs[qi]? = some x := hG.val
    have hb3 := Blk.new W1 134 x.cells
    have hx3 : Ext W1 (W1.alloc (.cells x.cells 134)) := (Ext.refl W1).alloc _ _
    have HB3 := Lib.hid hb3
    have HX3 := Lib.hid hx3
    have HI := Lib.hid hcoll
    have HMAP := Lib.hid hmap
    have HBLK := Lib.hid hblk
    have HOWN := Lib.hid hown
    have HX01 := Lib.hid hx01
    have HXM := Lib.hid hxm
    have HYL := Lib.hid hyl
    have hyb : ys.length < 1000000 := by omega
    clear hb3 hx3 hblk hown hcoll hmap hx01 hG hnL hlt hxm hyl
    dsimp only [encBC]
    gi_wp2_with fail
    refine ⟨HX3.out, fun W3 k3 => ?_⟩
    have hs1W := HX01.out.size
    have h13 : St (fun b => b = w1.heap.size + 1) W1 W3 := (HX3.out.st _).trans k3
    have h03 : St (fun b => b = w1.heap.size + 1) W0' W3 := (HX01.out.st _).trans h13
    have hbv := k3.blk HB3.out (by omega)
    have hrow0 : ∀ b, s9.row = some b → w1.heap.size + 2 ≤ b ∧ b < W0'.heap.size := fun b hb => own_row HOWN.out hb
    have hL3 := h03.blk HBLK.out (by omega)
    have cL : W3.cell? ⟨w.heap.size, 0, none⟩ = some (.slice s9.a ys.length s9.c) := hL3.cell 0
    have fL := hL3.frozen 0
    have lL := hL3.lt
    have hs03 := h03.size
    have hs13 := h13.size
    have hst1 : St (fun b => b = w.heap.size ∨ b = w1.heap.size + 1) w1 W3 := (HI.out.st.mono fun i _ hi => .inl hi).trans (h03.mono fun i _ hi => .inr hi)
    have hcr : CR W3 (Lt w.heap.size) x := ((HCS.out.vals x (List.mem_of_getElem? HXM.out)).agree fun b (hb : b < w.heap.size) => hst1.block b (by omega) (by omega))
    have hcp := fun (W : World) (hW : Ext W3 W) (d : Val) (sl so : Sl) (hr : RV W3 (Lt w.heap.size) d sl so) => copy_any _ d (Nat.le_refl _) W sl so ((hr.agree (hW.agree fun i (hi : i < w.heap.size) => by omega)).mono fun i (hi : i < w.heap.size) => by have := hW.size; omega)
    have HCI := Lib.hid (fun (W : World) (hW : Ext W3 W) => hcp W hW x.c.is_ x.sli x.soi hcr.is_)
    have HCW := Lib.hid (fun (W : World) (hW : Ext W3 W) => hcp W hW x.c.was x.slw x.sow hcr.was)
    have HKEY := Lib.hid hcr.key
    have HSS := Lib.hid (fun (w' : World) (h : S15 W1.heap.size x w') => (show _ ∧ _ from h))
    have HS15 := Lib.hid (fun (W : World) (hW : Ext W3 W) => (hbv.ext hW).s15)
    have H03 := Lib.hid h03
    have HOWN3 := Lib.hid (own_agree HOWN.out h03.agree fun b hb => ⟨(hrow0 b hb).2, by have := (hrow0 b hb).1; omega⟩)
    have HL3 := Lib.hid hL3
    have hneL : s9.row ≠ some w.heap.size := fun e => by have := (hrow0 _ e).1; omega
    have hneV : s9.row ≠ some W1.heap.size := fun e => by have := (hrow0 _ e).2; omega
    have h63 : ys.length + 1 ≤ maxLen := by unfold maxLen; omega
    have hby : (ys.length + 1) * 208 ≤ 140737488355328 := by omega
    have lV := hbv.lt
    clear k3 h03 h13 hbv hL3 hst1 hcr hcp
    unfold CopyPost at HCI HCW
    gi_wp2_with fail
    refine wpIn_region_roundE (f := 127) (enters_of Try.func127 (by kernel_rfl) rfl) (S := (fun w' => S15 W1.heap.size x w')) (by kernel_rfl) (by rintro ⟨a, w, h⟩; exact h) (by kernel_rfl) ((HS15.out _ ((Ext.refl W3).drew))) (fun hHeld => ?_)
    refine held_on (i := 1) (d := (some 11)) (v := ?_) rfl rfl (by kernel_rfl) (by kernel_rfl) (by kernel_rfl) (fun _ _ _ h => h) (by rfl) hHeld ?_ ?_
    rotate_left
    focus (intro w hSw; have hSc := HSS.out w hSw; clear hSw; go_simp; first | done | with_reducible rfl)
    try simp only [Act.put, List.setIfInBounds_toArray, List.set_cons_zero, List.set_cons_succ]
    refine held_on (i := 2) (d := (some 12)) (v := ?_) rfl rfl (by kernel_rfl) (by kernel_rfl) (by kernel_rfl) (fun _ _ _ h => h) (by rfl) hHeld ?_ ?_
    rotate_left
    focus (intro w hSw; have hSc := HSS.out w hSw; clear hSw; go_simp; first | done | with_reducible rfl)
    try simp only [Act.put, List.setIfInBounds_toArray, List.set_cons_zero, List.set_cons_succ]
    refine held_on (i := 3) (d := (some 13)) (v := ?_) rfl rfl (by kernel_rfl) (by kernel_rfl) (by kernel_rfl) (fun _ _ _ h => h) (by rfl) hHeld ?_ ?_
    rotate_left
    focus (intro w hSw; have hSc := HSS.out w hSw; clear hSw; go_simp; first | done | with_reducible rfl)
    try simp only [Act.put, List.setIfInBounds_toArray, List.set_cons_zero, List.set_cons_succ]
    refine held_on (i := 4) (d := (some 14)) (v := ?_) rfl rfl (by kernel_rfl) (by kernel_rfl) (by kernel_rfl) (fun _ _ _ h => h) (by rfl) hHeld ?_ ?_
    rotate_left
    focus (intro w hSw; have hSc := HSS.out w hSw; clear hSw; go_simp; first | done | with_reducible rfl)
    try simp only [Act.put, List.setIfInBounds_toArray, List.set_cons_zero, List.set_cons_succ]
    refine held_on (i := 5) (d := (some 15)) (v := ?_) rfl rfl (by kernel_rfl) (by kernel_rfl) (by kernel_rfl) (fun _ _ _ h => h) (by rfl) hHeld ?_ ?_
    rotate_left
    focus (intro w hSw; have hSc := HSS.out w hSw; clear hSw; go_simp; first | done | with_reducible rfl)
    try simp only [Act.put, List.setIfInBounds_toArray, List.set_cons_zero, List.set_cons_succ]
    refine held_on (i := 6) (d := (some 16)) (v := ?_) rfl rfl (by kernel_rfl) (by kernel_rfl) (by kernel_rfl) (fun _ _ _ h => h) (by rfl) hHeld ?_ ?_
    rotate_left
    focus (intro w hSw; have hSc := HSS.out w hSw; clear hSw; go_simp; first | done | with_reducible rfl)
    try simp only [Act.put, List.setIfInBounds_toArray, List.set_cons_zero, List.set_cons_succ]
    refine held_on (i := 8) (d := (some 18)) (v := ?_) rfl rfl (by kernel_rfl) (by kernel_rfl) (by kernel_rfl) (fun _ _ _ h => h) (by rfl) hHeld ?_ ?_
    rotate_left
    focus (intro w hSw; have hSc := HSS.out w hSw; clear hSw; go_simp; first | done | with_reducible rfl)
    try simp only [Act.put, List.setIfInBounds_toArray, List.set_cons_zero, List.set_cons_succ]
    refine held_on (i := 9) (d := (some 19)) (v := ?_) rfl rfl (by kernel_rfl) (by kernel_rfl) (by kernel_rfl) (fun _ _ _ h => h) (by rfl) hHeld ?_ ?_
    rotate_left
    focus (intro w hSw; have hSc := HSS.out w hSw; clear hSw; go_simp; first | done | with_reducible rfl)
    try simp only [Act.put, List.setIfInBounds_toArray, List.set_cons_zero, List.set_cons_succ]
    refine held_on (i := 10) (d := (some 20)) (v := ?_) rfl rfl (by kernel_rfl) (by kernel_rfl) (by kernel_rfl) (fun _ _ _ h => h) (by rfl) hHeld ?_ ?_
    rotate_left
    focus (intro w hSw; have hSc := HSS.out w hSw; clear hSw; go_simp; first | done | with_reducible rfl)
    try simp only [Act.put, List.setIfInBounds_toArray, List.set_cons_zero, List.set_cons_succ]
    refine held_on (i := 11) (d := (some 21)) (v := ?_) rfl rfl (by kernel_rfl) (by kernel_rfl) (by kernel_rfl) (fun _ _ _ h => h) (by rfl) hHeld ?_ ?_
    rotate_left
    focus (intro w hSw; have hSc := HSS.out w hSw; clear hSw; go_simp; first | done | with_reducible rfl)
    try simp only [Act.put, List.setIfInBounds_toArray, List.set_cons_zero, List.set_cons_succ]
    refine held_two (i := 0) (j := 7) (by kernel_rfl) rfl rfl (by rfl) (by rfl) (fun K hK => ?_) (fun K hK => ?_)
    · go_simp
      skip
      refine hK.out _ _ (hHeld) (fun hHeld => ?_)
      clear hK K
      try simp only [Act.put, List.setIfInBounds_toArray, List.set_cons_zero, List.set_cons_succ]
      refine held_call (i := 7) (by kernel_rfl) rfl (by rfl) (fun K hK => ?_)
      go_simp
      (refine (HCI.out _ ((Ext.refl W3).drew)).mono ?_; rintro e w7 ⟨li, oi, rfl, hx7, hr7⟩; have H7 := Lib.hid (((Ext.refl W3).drew).trans hx7); have HR7 := Lib.hid hr7; have cL7 : w7.cell? ⟨w.heap.size, 0, none⟩ = some (.slice s9.a ys.length s9.c) := (HL3.out.ext H7.out).cell 0; clear hx7 hr7)
      refine hK.out _ _ (HS15.out _ H7.out) (fun hHeld => ?_)
      clear hK K
      try simp only [Act.put, List.setIfInBounds_toArray, List.set_cons_zero, List.set_cons_succ]
      refine held_call (i := 12) (by kernel_rfl) rfl (by rfl) (fun K hK => ?_)
      go_simp
      (refine (HCW.out _ H7.out).mono ?_; rintro e w8 ⟨lw, ow, rfl, hx8, hr8⟩; have HY8 := Lib.hid hx8; have H8 := Lib.hid (H7.out.trans hx8); have HR8 := Lib.hid hr8; have cL8 : w8.cell? ⟨w.heap.size, 0, none⟩ = some (.slice s9.a ys.length s9.c) := (HL3.out.ext H8.out).cell 0; have lL8 : w.heap.size < w8.heap.size := (HL3.out.ext H8.out).lt; have hs8 := H8.out.size; clear hx8 hr8)
      refine hK.out _ _ (HS15.out _ H8.out) (fun hHeld => ?_)
      clear hK K
      try simp only [Act.put, List.setIfInBounds_toArray, List.set_cons_zero, List.set_cons_succ]
      refine held_on (i := 13) (d := (some 23)) (v := ?_) rfl rfl (by kernel_rfl) (by kernel_rfl) (by kernel_rfl) (fun _ _ _ h => h) (by rfl) hHeld ?_ ?_
      rotate_left
      focus (intro w hSw; have hSc := HSS.out w hSw; clear hSw; go_simp; first | done | with_reducible rfl)
      try simp only [Act.put, List.setIfInBounds_toArray, List.set_cons_zero, List.set_cons_succ]
      refine held_call (i := 14) (by kernel_rfl) rfl (by rfl) (fun K hK => ?_)
      go_simp
      skip
      refine hK.out _ _ (HS15.out _ (H8.out.alloc _ _)) (fun hHeld => ?_)
      clear hK K
      try simp only [Act.put, List.setIfInBounds_toArray, List.set_cons_zero, List.set_cons_succ]
      refine held_call (i := 15) (by kernel_rfl) rfl (by rfl) (fun K hK => ?_)
      skip
      refine wp_append_x _ (.tmp 10) (.tmp 24) 131 rfl (w1.heap.size + 2) 134 i0 _ 15 208 Try.underlying131 hi hz0 hz1 hz2 rfl (by decide) s9 ys.length (flatC ys) (by rfl) (own_agree (own_agree HOWN3.out (H8.out.agree fun b (hb : b < W3.heap.size) => hb) (fun b hb => (own_row HOWN3.out hb).2)) (((Ext.refl w8).alloc (newC x li oi lw ow).cells 134).agree fun b (hb : b < w8.heap.size) => hb) (fun b hb => (by have := (hrow0 b hb).2; omega))) (fun b => b = w8.heap.size) ⟨some ⟨w8.heap.size, 0, none⟩, 1⟩ 1 (newC x li oi lw ow).cells.toList (by rfl) (Rd.block (Blk.new w8 134 (newC x li oi lw ow).cells) (by decide) rfl) (ce_one (newC x li oi lw ow)) h63 hby (by rw [World.size_alloc]; omega) ?_; intro s3 w5 hown5 hwr5 hs5; have h5 := hwr5.cell0 (o := 0) ((Ext.refl w8).alloc (newC x li oi lw ow).cells 134) hneL lL8; have cL5 : w5.cell? ⟨w.heap.size, 0, none⟩ = some (.slice s9.a ys.length s9.c) := h5.1.trans cL8; have lL5 := h5.2; have fL5 : w5.frozen? ⟨w.heap.size, 0, none⟩ = false := (hwr5.fz _ _).trans ((((Ext.refl w8).alloc (newC x li oi lw ow).cells 134).frozen (o := 0) lL8).trans ((H8.out.frozen (o := 0) lL).trans fL)); have hS5 : S15 W1.heap.size x w5 := s15_wr hwr5 ((Ext.refl w8).alloc (newC x li oi lw ow).cells 134) hneV (by omega) (HS15.out _ H8.out); have HO5 := Lib.hid hown5; have HW5 := Lib.hid hwr5; have HS5 := Lib.hid hs5; clear hown5 hwr5 hs5 h5
      refine hK.out _ _ (hS5) (fun hHeld => ?_)
      clear hK K
      try simp only [Act.put, List.setIfInBounds_toArray, List.set_cons_zero, List.set_cons_succ]
      refine held_call (i := 16) (by kernel_rfl) rfl (by rfl) (fun K hK => ?_)
      go_simp
      skip
      refine hK.out _ _ (s15_set hS5 (by omega)) (fun hHeld => ?_)
      clear hK K
      try simp only [Act.put, List.setIfInBounds_toArray, List.set_cons_zero, List.set_cons_succ]
      refine wpAnyH_done (by kernel_rfl) ?_ _
      gi_wp2_with fail
      have hdz : W3.drew.heap.size = W3.heap.size := rfl
      obtain ⟨e1, e2, e3, e4⟩ := collC_end (w := w1) (W3 := w8) (x := newC x li oi lw ow) (D1 := fun _ => False) hL1 HI.out HBLK.out HOWN.out (((H03.out.trans (H8.out.st _))).mono fun i _ hi => .inr hi) (fun b hb => hb.elim) (fun b hb => hb.elim) (fun b _ hb => hb) ⟨(HR7.out.agree (HY8.out.agree fun b hb => hb.2)).mono fun b hb => ⟨by have := hb.1; omega, by have := hb.2; have := HY8.out.size; omega, fun e => by have := hb.1; rcases e with e | (e | e) | e <;> first | exact e.elim | omega | (have := (hrow0 b e).2; omega)⟩, HR8.out.mono fun b hb => ⟨by have := hb.1; have := H7.out.size; omega, hb.2, fun e => by have := hb.1; have := H7.out.size; rcases e with e | (e | e) | e <;> first | exact e.elim | omega | (have := (hrow0 b e).2; omega)⟩, HKEY.out⟩ ((Ext.refl w8).alloc (newC x li oi lw ow).cells 134) HO5.out HW5.out HS5.out
      refine ⟨_, ⟨ys ++ [newC x li oi lw ow], e1, by rw [List.map_append, List.map_append, HMAP.out]; rfl, by rw [List.length_append, List.length_append, HYL.out]; rfl, by rw [List.length_append, List.length_singleton]; omega⟩, ?_, ?_, e4⟩
      · exact (H8.out.st _).trans e2
      · exact fun b hb => (e3 b hb).imp id fun h => by omega
    · go_simp
      (refine (HCI.out _ ((Ext.refl W3).drew)).mono ?_; rintro e w7 ⟨li, oi, rfl, hx7, hr7⟩; have H7 := Lib.hid (((Ext.refl W3).drew).trans hx7); have HR7 := Lib.hid hr7; have cL7 : w7.cell? ⟨w.heap.size, 0, none⟩ = some (.slice s9.a ys.length s9.c) := (HL3.out.ext H7.out).cell 0; clear hx7 hr7)
      refine hK.out _ _ (HS15.out _ H7.out) (fun hHeld => ?_)
      clear hK K
      try simp only [Act.put, List.setIfInBounds_toArray, List.set_cons_zero, List.set_cons_succ]
      refine held_two (i := 0) (j := 12) (by kernel_rfl) rfl rfl (by rfl) (by rfl) (fun K hK => ?_) (fun K hK => ?_)
      · go_simp
        skip
        refine hK.out _ _ (hHeld) (fun hHeld => ?_)
        clear hK K
        try simp only [Act.put, List.setIfInBounds_toArray, List.set_cons_zero, List.set_cons_succ]
        refine held_call (i := 12) (by kernel_rfl) rfl (by rfl) (fun K hK => ?_)
        go_simp
        (refine (HCW.out _ H7.out).mono ?_; rintro e w8 ⟨lw, ow, rfl, hx8, hr8⟩; have HY8 := Lib.hid hx8; have H8 := Lib.hid (H7.out.trans hx8); have HR8 := Lib.hid hr8; have cL8 : w8.cell? ⟨w.heap.size, 0, none⟩ = some (.slice s9.a ys.length s9.c) := (HL3.out.ext H8.out).cell 0; have lL8 : w.heap.size < w8.heap.size := (HL3.out.ext H8.out).lt; have hs8 := H8.out.size; clear hx8 hr8)
        refine hK.out _ _ (HS15.out _ H8.out) (fun hHeld => ?_)
        clear hK K
        try simp only [Act.put, List.setIfInBounds_toArray, List.set_cons_zero, List.set_cons_succ]
        refine held_on (i := 13) (d := (some 23)) (v := ?_) rfl rfl (by kernel_rfl) (by kernel_rfl) (by kernel_rfl) (fun _ _ _ h => h) (by rfl) hHeld ?_ ?_
        rotate_left
        focus (intro w hSw; have hSc := HSS.out w hSw; clear hSw; go_simp; first | done | with_reducible rfl)
        try simp only [Act.put, List.setIfInBounds_toArray, List.set_cons_zero, List.set_cons_succ]
        refine held_call (i := 14) (by kernel_rfl) rfl (by rfl) (fun K hK => ?_)
        go_simp
        skip
        refine hK.out _ _ (HS15.out _ (H8.out.alloc _ _)) (fun hHeld => ?_)
        clear hK K
        try simp only [Act.put, List.setIfInBounds_toArray, List.set_cons_zero, List.set_cons_succ]
        refine held_call (i := 15) (by kernel_rfl) rfl (by rfl) (fun K hK => ?_)
        skip
        refine wp_append_x _ (.tmp 10) (.tmp 24) 131 rfl (w1.heap.size + 2) 134 i0 _ 15 208 Try.underlying131 hi hz0 hz1 hz2 rfl (by decide) s9 ys.length (flatC ys) (by rfl) (own_agree (own_agree HOWN3.out (H8.out.agree fun b (hb : b < W3.heap.size) => hb) (fun b hb => (own_row HOWN3.out hb).2)) (((Ext.refl w8).alloc (newC x li oi lw ow).cells 134).agree fun b (hb : b < w8.heap.size) => hb) (fun b hb => (by have := (hrow0 b hb).2; omega))) (fun b => b = w8.heap.size) ⟨some ⟨w8.heap.size, 0, none⟩, 1⟩ 1 (newC x li oi lw ow).cells.toList (by rfl) (Rd.block (Blk.new w8 134 (newC x li oi lw ow).cells) (by decide) rfl) (ce_one (newC x li oi lw ow)) h63 hby (by rw [World.size_alloc]; omega) ?_; intro s3 w5 hown5 hwr5 hs5; have h5 := hwr5.cell0 (o := 0) ((Ext.refl w8).alloc (newC x li oi lw ow).cells 134) hneL lL8; have cL5 : w5.cell? ⟨w.heap.size, 0, none⟩ = some (.slice s9.a ys.length s9.c) := h5.1.trans cL8; have lL5 := h5.2; have fL5 : w5.frozen? ⟨w.heap.size, 0, none⟩ = false := (hwr5.fz _ _).trans ((((Ext.refl w8).alloc (newC x li oi lw ow).cells 134).frozen (o := 0) lL8).trans ((H8.out.frozen (o := 0) lL).trans fL)); have hS5 : S15 W1.heap.size x w5 := s15_wr hwr5 ((Ext.refl w8).alloc (newC x li oi lw ow).cells 134) hneV (by omega) (HS15.out _ H8.out); have HO5 := Lib.hid hown5; have HW5 := Lib.hid hwr5; have HS5 := Lib.hid hs5; clear hown5 hwr5 hs5 h5
        refine hK.out _ _ (hS5) (fun hHeld => ?_)
        clear hK K
        try simp only [Act.put, List.setIfInBounds_toArray, List.set_cons_zero, List.set_cons_succ]
        refine held_call (i := 16) (by kernel_rfl) rfl (by rfl) (fun K hK => ?_)
        go_simp
        skip
        refine hK.out _ _ (s15_set hS5 (by omega)) (fun hHeld => ?_)
        clear hK K
        try simp only [Act.put, List.setIfInBounds_toArray, List.set_cons_zero, List.set_cons_succ]
        refine wpAnyH_done (by kernel_rfl) ?_ _
        gi_wp2_with fail
        have hdz : W3.drew.heap.size = W3.heap.size := rfl
        obtain ⟨e1, e2, e3, e4⟩ := collC_end (w := w1) (W3 := w8) (x := newC x li oi lw ow) (D1 := fun _ => False) hL1 HI.out HBLK.out HOWN.out (((H03.out.trans (H8.out.st _))).mono fun i _ hi => .inr hi) (fun b hb => hb.elim) (fun b hb => hb.elim) (fun b _ hb => hb) ⟨(HR7.out.agree (HY8.out.agree fun b hb => hb.2)).mono fun b hb => ⟨by have := hb.1; omega, by have := hb.2; have := HY8.out.size; omega, fun e => by have := hb.1; rcases e with e | (e | e) | e <;> first | exact e.elim | omega | (have := (hrow0 b e).2; omega)⟩, HR8.out.mono fun b hb => ⟨by have := hb.1; have := H7.out.size; omega, hb.2, fun e => by have := hb.1; have := H7.out.size; rcases e with e | (e | e) | e <;> first | exact e.elim | omega | (have := (hrow0 b e).2; omega)⟩, HKEY.out⟩ ((Ext.refl w8).alloc (newC x li oi lw ow).cells 134) HO5.out HW5.out HS5.out
        refine ⟨_, ⟨ys ++ [newC x li oi lw ow], e1, by rw [List.map_append, List.map_append, HMAP.out]; rfl, by rw [List.length_append, List.length_append, HYL.out]; rfl, by rw [List.length_append, List.length_singleton]; omega⟩, ?_, ?_, e4⟩
        · exact (H8.out.st _).trans e2
        · exact fun b hb => (e3 b hb).imp id fun h => by omega
      · go_simp
        (refine (HCW.out _ H7.out).mono ?_; rintro e w8 ⟨lw, ow, rfl, hx8, hr8⟩; have HY8 := Lib.hid hx8; have H8 := Lib.hid (H7.out.trans hx8); have HR8 := Lib.hid hr8; have cL8 : w8.cell? ⟨w.heap.size, 0, none⟩ = some (.slice s9.a ys.length s9.c) := (HL3.out.ext H8.out).cell 0; have lL8 : w.heap.size < w8.heap.size := (HL3.out.ext H8.out).lt; have hs8 := H8.out.size; clear hx8 hr8)
        refine hK.out _ _ (HS15.out _ H8.out) (fun hHeld => ?_)
        clear hK K
        try simp only [Act.put, List.setIfInBounds_toArray, List.set_cons_zero, List.set_cons_succ]
        refine held_on (i := 13) (d := (some 23)) (v := ?_) rfl rfl (by kernel_rfl) (by kernel_rfl) (by kernel_rfl) (fun _ _ _ h => h) (by rfl) hHeld ?_ ?_
        rotate_left
        focus (intro w hSw; have hSc := HSS.out w hSw; clear hSw; go_simp; first | done | with_reducible rfl)
        try simp only [Act.put, List.setIfInBounds_toArray, List.set_cons_zero, List.set_cons_succ]
        refine held_two (i := 0) (j := 14) (by kernel_rfl) rfl rfl (by rfl) (by rfl) (fun K hK => ?_) (fun K hK => ?_)
        · go_simp
          skip
          refine hK.out _ _ (hHeld) (fun hHeld => ?_)
          clear hK K
          try simp only [Act.put, List.setIfInBounds_toArray, List.set_cons_zero, List.set_cons_succ]
          refine held_call (i := 14) (by kernel_rfl) rfl (by rfl) (fun K hK => ?_)
          go_simp
          skip
          refine hK.out _ _ (HS15.out _ (H8.out.alloc _ _)) (fun hHeld => ?_)
          clear hK K
          try simp only [Act.put, List.setIfInBounds_toArray, List.set_cons_zero, List.set_cons_succ]
          refine held_call (i := 15) (by kernel_rfl) rfl (by rfl) (fun K hK => ?_)
          skip
          refine wp_append_x _ (.tmp 10) (.tmp 24) 131 rfl (w1.heap.size + 2) 134 i0 _ 15 208 Try.underlying131 hi hz0 hz1 hz2 rfl (by decide) s9 ys.length (flatC ys) (by rfl) (own_agree (own_agree HOWN3.out (H8.out.agree fun b (hb : b < W3.heap.size) => hb) (fun b hb => (own_row HOWN3.out hb).2)) (((Ext.refl w8).alloc (newC x li oi lw ow).cells 134).agree fun b (hb : b < w8.heap.size) => hb) (fun b hb => (by have := (hrow0 b hb).2; omega))) (fun b => b = w8.heap.size) ⟨some ⟨w8.heap.size, 0, none⟩, 1⟩ 1 (newC x li oi lw ow).cells.toList (by rfl) (Rd.block (Blk.new w8 134 (newC x li oi lw ow).cells) (by decide) rfl) (ce_one (newC x li oi lw ow)) h63 hby (by rw [World.size_alloc]; omega) ?_; intro s3 w5 hown5 hwr5 hs5; have h5 := hwr5.cell0 (o := 0) ((Ext.refl w8).alloc (newC x li oi lw ow).cells 134) hneL lL8; have cL5 : w5.cell? ⟨w.heap.size, 0, none⟩ = some (.slice s9.a ys.length s9.c) := h5.1.trans cL8; have lL5 := h5.2; have fL5 : w5.frozen? ⟨w.heap.size, 0, none⟩ = false := (hwr5.fz _ _).trans ((((Ext.refl w8).alloc (newC x li oi lw ow).cells 134).frozen (o := 0) lL8).trans ((H8.out.frozen (o := 0) lL).trans fL)); have hS5 : S15 W1.heap.size x w5 := s15_wr hwr5 ((Ext.refl w8).alloc (newC x li oi lw ow).cells 134) hneV (by omega) (HS15.out _ H8.out); have HO5 := Lib.hid hown5; have HW5 := Lib.hid hwr5; have HS5 := Lib.hid hs5; clear hown5 hwr5 hs5 h5
          refine hK.out _ _ (hS5) (fun hHeld => ?_)
          clear hK K
          try simp only [Act.put, List.setIfInBounds_toArray, List.set_cons_zero, List.set_cons_succ]
          refine held_call (i := 16) (by kernel_rfl) rfl (by rfl) (fun K hK => ?_)
          go_simp
          skip
          refine hK.out _ _ (s15_set hS5 (by omega)) (fun hHeld => ?_)
          clear hK K
          try simp only [Act.put, List.setIfInBounds_toArray, List.set_cons_zero, List.set_cons_succ]
          refine wpAnyH_done (by kernel_rfl) ?_ _
          gi_wp2_with fail
          have hdz : W3.drew.heap.size = W3.heap.size := rfl
          obtain ⟨e1, e2, e3, e4⟩ := collC_end (w := w1) (W3 := w8) (x := newC x li oi lw ow) (D1 := fun _ => False) hL1 HI.out HBLK.out HOWN.out (((H03.out.trans (H8.out.st _))).mono fun i _ hi => .inr hi) (fun b hb => hb.elim) (fun b hb => hb.elim) (fun b _ hb => hb) ⟨(HR7.out.agree (HY8.out.agree fun b hb => hb.2)).mono fun b hb => ⟨by have := hb.1; omega, by have := hb.2; have := HY8.out.size; omega, fun e => by have := hb.1; rcases e with e | (e | e) | e <;> first | exact e.elim | omega | (have := (hrow0 b e).2; omega)⟩, HR8.out.mono fun b hb => ⟨by have := hb.1; have := H7.out.size; omega, hb.2, fun e => by have := hb.1; have := H7.out.size; rcases e with e | (e | e) | e <;> first | exact e.elim | omega | (have := (hrow0 b e).2; omega)⟩, HKEY.out⟩ ((Ext.refl w8).alloc (newC x li oi lw ow).cells 134) HO5.out HW5.out HS5.out
          refine ⟨_, ⟨ys ++ [newC x li oi lw ow], e1, by rw [List.map_append, List.map_append, HMAP.out]; rfl, by rw [List.length_append, List.length_append, HYL.out]; rfl, by rw [List.length_append, List.length_singleton]; omega⟩, ?_, ?_, e4⟩
          · exact (H8.out.st _).trans e2
          · exact fun b hb => (e3 b hb).imp id fun h => by omega
        · go_simp
          skip
          refine hK.out _ _ (HS15.out _ (H8.out.alloc _ _)) (fun hHeld => ?_)
          clear hK K
          try simp only [Act.put, List.setIfInBounds_toArray, List.set_cons_zero, List.set_cons_succ]
          refine held_call (i := 0) (by kernel_rfl) rfl (by rfl) (fun K hK => ?_)
          go_simp
          skip
          refine hK.out _ _ (hHeld) (fun hHeld => ?_)
          clear hK K
          try simp only [Act.put, List.setIfInBounds_toArray, List.set_cons_zero, List.set_cons_succ]
          refine held_call (i := 15) (by kernel_rfl) rfl (by rfl) (fun K hK => ?_)
          skip
          refine wp_append_x _ (.tmp 10) (.tmp 24) 131 rfl (w1.heap.size + 2) 134 i0 _ 15 208 Try.underlying131 hi hz0 hz1 hz2 rfl (by decide) s9 ys.length (flatC ys) (by rfl) (own_agree (own_agree HOWN3.out (H8.out.agree fun b (hb : b < W3.heap.size) => hb) (fun b hb => (own_row HOWN3.out hb).2)) (((Ext.refl w8).alloc (newC x li oi lw ow).cells 134).agree fun b (hb : b < w8.heap.size) => hb) (fun b hb => (by have := (hrow0 b hb).2; omega))) (fun b => b = w8.heap.size) ⟨some ⟨w8.heap.size, 0, none⟩, 1⟩ 1 (newC x li oi lw ow).cells.toList (by rfl) (Rd.block (Blk.new w8 134 (newC x li oi lw ow).cells) (by decide) rfl) (ce_one (newC x li oi lw ow)) h63 hby (by rw [World.size_alloc]; omega) ?_; intro s3 w5 hown5 hwr5 hs5; have h5 := hwr5.cell0 (o := 0) ((Ext.refl w8).alloc (newC x li oi lw ow).cells 134) hneL lL8; have cL5 : w5.cell? ⟨w.heap.size, 0, none⟩ = some (.slice s9.a ys.length s9.c) := h5.1.trans cL8; have lL5 := h5.2; have fL5 : w5.frozen? ⟨w.heap.size, 0, none⟩ = false := (hwr5.fz _ _).trans ((((Ext.refl w8).alloc (newC x li oi lw ow).cells 134).frozen (o := 0) lL8).trans ((H8.out.frozen (o := 0) lL).trans fL)); have hS5 : S15 W1.heap.size x w5 := s15_wr hwr5 ((Ext.refl w8).alloc (newC x li oi lw ow).cells 134) hneV (by omega) (HS15.out _ H8.out); have HO5 := Lib.hid hown5; have HW5 := Lib.hid hwr5; have HS5 := Lib.hid hs5; clear hown5 hwr5 hs5 h5
          refine hK.out _ _ (hS5) (fun hHeld => ?_)
          clear hK K
          try simp only [Act.put, List.setIfInBounds_toArray, List.set_cons_zero, List.set_cons_succ]
          refine held_call (i := 16) (by kernel_rfl) rfl (by rfl) (fun K hK => ?_)
          go_simp
          skip
          refine hK.out _ _ (s15_set hS5 (by omega)) (fun hHeld => ?_)
          clear hK K
          try simp only [Act.put, List.setIfInBounds_toArray, List.set_cons_zero, List.set_cons_succ]
          refine wpAnyH_done (by kernel_rfl) ?_ _
          gi_wp2_with fail
          have hdz : W3.drew.heap.size = W3.heap.size := rfl
          obtain ⟨e1, e2, e3, e4⟩ := collC_end (w := w1) (W3 := w8) (x := newC x li oi lw ow) (D1 := fun _ => False) hL1 HI.out HBLK.out HOWN.out (((H03.out.trans (H8.out.st _))).mono fun i _ hi => .inr hi) (fun b hb => hb.elim) (fun b hb => hb.elim) (fun b _ hb => hb) ⟨(HR7.out.agree (HY8.out.agree fun b hb => hb.2)).mono fun b hb => ⟨by have := hb.1; omega, by have := hb.2; have := HY8.out.size; omega, fun e => by have := hb.1; rcases e with e | (e | e) | e <;> first | exact e.elim | omega | (have := (hrow0 b e).2; omega)⟩, HR8.out.mono fun b hb => ⟨by have := hb.1; have := H7.out.size; omega, hb.2, fun e => by have := hb.1; have := H7.out.size; rcases e with e | (e | e) | e <;> first | exact e.elim | omega | (have := (hrow0 b e).2; omega)⟩, HKEY.out⟩ ((Ext.refl w8).alloc (newC x li oi lw ow).cells 134) HO5.out HW5.out HS5.out
          refine ⟨_, ⟨ys ++ [newC x li oi lw ow], e1, by rw [List.map_append, List.map_append, HMAP.out]; rfl, by rw [List.length_append, List.length_append, HYL.out]; rfl, by rw [List.length_append, List.length_singleton]; omega⟩, ?_, ?_, e4⟩
          · exact (H8.out.st _).trans e2
          · exact fun b hb => (e3 b hb).imp id fun h => by omega
  case done =>
    rintro D qs C W5 hD hS ⟨ys, ⟨⟨s9, rfl, hblk, hown⟩, hv, hst, hsz', hdis, hdlo⟩, hmap, hyl, hpl⟩ hDk
    have hrow0 : ∀ b, s9.row = some b → w1.heap.size + 2 ≤ b ∧ b < W5.heap.size := fun b hb => own_row hown hb
    have cL : W5.cell? ⟨w.heap.size, 0, none⟩ = some (.slice s9.a ys.length s9.c) := hblk.cell 0
    have lL := hblk.lt
    have hDl := (Array.getElem?_eq_some_iff.1 hDk).1
    have hk' : St (fun b => b = D) W5 (W5.putObj D (.deferred none)) := St.put hDk rfl rfl
    have hsk := hk'.size
    have hbk : backC al = ys.map CE.c := by
      rw [hmap, show (qs.map fun q => turnC q.2.c) = (qs.map Prod.snd).map fun x => turnC x.c from by rw [List.map_map]; rfl, hS, ← HAL.out, backC, List.map_map, ← List.map_reverse]
      rfl
    have hql : qs.length = cs.length := by have := congrArg List.length hS; simpa using this
    have hfin : BackPost al w (.returned (.slice s9.a ys.length s9.c)) (W5.putObj D (.deferred none)) := by
      refine ⟨s9, ys, rfl, hbk.symm, ?_, ?_, fun x hx => ?_, by omega⟩
      · refine (HX1.out.step hst (fun b hb => by omega)).step hk' fun b hb => ?_
        have := HX1.out.size
        omega
      · have ho := own_agree hown hk'.agree fun b hb => ⟨(hrow0 b hb).2, by have := (hrow0 b hb).1; omega⟩
        exact (Rd.of_own ho).mono fun b hb => ⟨by have := hb.1; have := HX1.out.size; omega, hb.2⟩
      · exact ((hv x hx).agree (hk'.agree.mono fun b hb => ⟨hb.2.1, by have := hb.1; omega⟩)).mono fun b hb => ⟨by have := hb.1; have := HX1.out.size; omega, Nat.lt_of_lt_of_le hb.2.1 hsk⟩
    have HFIN := Lib.hid hfin
    have HDK := Lib.hid hDk
    clear hblk hown hv hst hdis hdlo hDk hk' hfin hS hmap hbk hql hyl
    gi_wp2_with fail
    refine ⟨by simp, .inl ⟨_, _, rfl, run_takeDeferred HDK.out, ?_⟩⟩
    refine ⟨.slice s9.a ys.length s9.c, ?_, HFIN.out⟩
    simp [results, Try.f82, go_sem]
end Go.Proofs.Ytpapoalgocmlaaa
namespace Go.Proofs.Ytpapoalgocmlaaa
open Go.RowKit
set_option linter.unusedVariables false
set_option linter.unusedSimpArgs false
def hOf (w : World) : Value → Nat
  | .pointer (some p) => match w.cell? ⟨p.block, 2, none⟩ with
    | some v => (intOf v).toNat
    | none => 0
  | _ => 0
theorem hOf_ptr {w : World} {F : Nat → Prop} {h : Nat} {t : PT h} (hn : IsN w F h t) : hOf w (ptr h t) = h := by
  obtain ⟨-, se, sk, ne, nk, -, hb⟩ := hn.cells
  have := hb.c7.2.2.1
  simp [hOf, this, intOf]
theorem findT_step {key : ByteArray} {k h : Nat} {t : PT (h + 1)} {kid : PT h} (hk : k < h + 1) (hkid : t.2[whichK h t.2 key]? = some kid) : findT key k (h + 1) t = findT key k h kid := by
  simp only [findT, hk, if_true, hkid]
theorem findT_at {key : ByteArray} {k : Nat} : ∀ {h : Nat} {t : PT h}, ¬ k < h → findT key k h t = addr h t
  | 0, _, _ => rfl
  | h + 1, t, hk => by simp only [findT, hk, if_false]
set_option maxRecDepth 100000 in
set_option maxHeartbeats 4000000 in
theorem has_some {w : World} {F G : Nat → Prop} {h0 : Nat} {t0 : PT h0} {k : Nat} {u : PT k} (hF : ∀ b, F b → b < w.heap.size) (hn : IsN w F h0 t0) (ok : OkT h0 t0) (hs : Sorted (ents h0 t0)) (hc : (ents h0 t0).length ≤ 1000000) (hh0 : h0 < 1000000) (hG : ∀ b, G b → b < w.heap.size) (hu : IsN w G k u) :
    Calls Try.prog 153 #[ptr h0 t0, ptr k u] w fun e w' => e = .returned (.bool (decide (findT (firstK (ents k u)) k h0 t0 = addr k u))) ∧ Ext w w' := by
  have HU := Lib.hid (fun (W : World) (hW : Ext w W) => hu.agree (hW.agree hG))
  have HF := Lib.hid hF
  obtain ⟨j, hj, hz⟩ := is_info
  have H0 := Lib.hid (show IsN w F h0 t0 ∧ OkT h0 t0 ∧ Sorted (ents h0 t0) ∧ (ents h0 t0).length ≤ 1000000 ∧ h0 < 1000000 from ⟨hn, ok, hs, hc, hh0⟩)
  clear hF hn ok hs hc hG hu hh0
  go_enter Try.func153, Try.ntmps153
  go_wp2_with fail
  go_loopw [0] (fun v wr => ∃ (h : Nat) (t : PT h), v = ptr h t ∧ IsN wr F h t ∧ OkT h t ∧ Sorted (ents h t) ∧ (ents h t).length ≤ 1000000 ∧ h < 1000000 ∧ findT (firstK (ents k u)) k h t = findT (firstK (ents k u)) k h0 t0 ∧ Ext w wr) (fun v wr => hOf wr v)
  case atStart => exact ⟨h0, t0, rfl, H0.out.1, H0.out.2.1, H0.out.2.2.1, H0.out.2.2.2.1, H0.out.2.2.2.2, rfl, Ext.refl _⟩
  case round =>
    obtain ⟨h, t, rfl, hn, ok, hs, hc, hh, hf, hX⟩ := hrel
    have hu := HU.out _ hX
    have HN := Lib.hid hn
    have HX := Lib.hid hX
    have HFD := Lib.hid hf
    have HUW := Lib.hid hu
    have HOK := Lib.hid ok
    have HS := Lib.hid hs
    have hm := hOf_ptr hn
    have hht := height_any hn
    have hhu := height_any hu
    have HM := Lib.hid hm
    clear hX hf hn hu ok hs hm
    go_wp2_with fail
    refine hht.mono ?_
    rintro e w1 ⟨rfl, rfl⟩
    clear hht
    go_wp2_with fail
    refine hhu.mono ?_
    rintro e w1 ⟨rfl, rfl⟩
    clear hhu
    by_cases hgt : k < h
    · obtain ⟨h, rfl⟩ : ∃ h', h = h' + 1 := ⟨h - 1, by omega⟩
      have hgt' : (k : Int) < (h : Int) + 1 := by omega
      have hpos := kids_pos HOK.out
      obtain ⟨kid, hkid, -, -⟩ := which_split (h := h) (ks := t.2) HS.out hpos (by have := HOK.out.1; omega) (firstK (ents k u))
      have hkm := List.mem_of_getElem? hkid
      have hil := (List.getElem?_eq_some_iff.1 hkid).1
      have hlen8 := HOK.out.2.1
      have hks : ∀ x ∈ t.2, IsN wr F h x := HN.out.2.choose_spec.2.2
      have hkc : (ents h kid).length ≤ 1000000 := Nat.le_trans (by
        show _ ≤ (t.2.flatMap (ents h)).length
        rw [take_mid hkid]; simp only [List.flatMap_append, List.flatMap_cons, List.length_append]; omega) hc
      have hkc2 := kids_any HN.out (by omega)
      have hfst := fun (W : World) (hW : Ext wr W) => HU.out W (HX.out.trans hW)
      go_wp2_with fail
      refine hkc2.mono ?_
      rintro e w1 ⟨s', rfl, hown, hx1⟩
      have hrd : Rd w1 (Lt w1.heap.size) 1 s' t.2.length (ptrs h t.2) := (Rd.of_own hown).mono fun i hi => hi.2
      obtain ⟨g, cap, rfl, hbg, hnc, hcm, hfil⟩ := own_block hown (by omega)
      obtain ⟨i, hi⟩ : ∃ i, whichK h t.2 (firstK (ents k u)) = i := ⟨_, rfl⟩
      have hwh : Calls Try.prog 138 #[.slice (some ⟨g, 0, none⟩) t.2.length cap, .string (firstK (ents k u))] w1 fun e w' => e = .returned (.int .i64 i) ∧ Ext w1 w' := by
        rw [← hi]
        exact which_any (s := ⟨some ⟨g, 0, none⟩, cap⟩) hrd (fun x hx => (hks x hx).agree (hx1.agree fun b hb => Nat.lt_of_lt_of_le (HF.out b hb) HX.out.size)) (fun b hb => Nat.lt_of_lt_of_le (HF.out b hb) (HX.out.trans hx1).size) hpos _ HS.out (by omega)
      have hkid' := hkid
      rw [hi] at hkid hil
      obtain ⟨b, o, hba, hbl, -, -, hbc⟩ := hrd.ptr_at hkid
      obtain ⟨rfl, rfl⟩ : g = b ∧ 0 = o := by simpa using hba
      have kc : w1.cell? ⟨g, i, none⟩ = some (ptr h kid) := by simpa using hbc
      have hg1 : g < w1.heap.size := hbl
      have hii : (i : Int) < (t.2.length : Int) := by omega
      have hi0 : (0 : Int) ≤ (i : Int) := by omega
      have hf1 := first_any (hfst w1 hx1)
      have HREL := Lib.hid (show OkT h kid ∧ Sorted (ents h kid) ∧ findT (firstK (ents k u)) k h kid = findT (firstK (ents k u)) k h0 t0 ∧ IsN wr F h kid from ⟨(HOK.out.2.2 kid hkm).1, kid_sorted HS.out kid hkm, by rw [← HFD.out, findT_step hgt hkid'], hks kid hkm⟩)
      have HX1 := Lib.hid hx1
      clear hpos hks hkc2 hfst hown hrd hfil hbc hba hkid hkid' hx1 hkm hi hlen8
      go_wp2_with fail
      refine hf1.mono ?_
      rintro e w2 ⟨rfl, rfl⟩
      clear hf1
      go_wp2_with fail
      refine hwh.mono ?_
      rintro e w2 ⟨rfl, hx2⟩
      replace kc := (hx2.cell hg1).trans kc
      have HX2 := Lib.hid hx2
      clear hx2 hwh
      go_wp2_with fail
      have hnk : IsN w2 F h kid := HREL.out.2.2.2.agree ((HX1.out.trans HX2.out).agree fun b hb => Nat.lt_of_lt_of_le (HF.out b hb) HX.out.size)
      have HNK := Lib.hid hnk
      clear hnk
      go_roundw
      case rel => exact ⟨h, kid, rfl, HNK.out, HREL.out.1, HREL.out.2.1, hkc, by omega, HREL.out.2.2.1, (HX.out.trans HX1.out).trans HX2.out⟩
      case measure => rw [hOf_ptr HNK.out, HM.out]; omega
    · have hgt' : ¬ (k : Int) < (h : Int) := by omega
      have hbt := HN.out.cells.2.choose_spec.choose_spec.choose_spec.choose_spec.2
      have hbu := HUW.out.cells.2.choose_spec.choose_spec.choose_spec.choose_spec.2
      by_cases he : addr h t = addr k u
      · have hq : ∀ W, (binOp .eql 28 (ptr h t) (ptr k u)).run Try.prog W = .ok (.bool true) W := fun W => by
          show (binOp .eql 28 (.pointer (some ⟨addr h t, 0, none⟩)) (.pointer (some ⟨addr k u, 0, none⟩))).run Try.prog W = _
          rw [he]
          exact run_eql_ptr_same (P := Try.prog) W ⟨addr k u, 0, none⟩ Try.underlying28 hj
        clear hbt hbu
        go_wp2_with fail
        go_ret
        exact ⟨congrArg (fun b => Ending.returned (.bool b)) (a₁ := true) (by rw [← HFD.out, findT_at hgt, decide_eq_true he]), HX.out⟩
      · have hne : (⟨addr h t, 0, none⟩ : Addr) ≠ ⟨addr k u, 0, none⟩ := fun e => he (by simp at e)
        have hq := run_eql_ptr_other (P := Try.prog) wr Try.underlying28 hj hz hne hbt hbu
        clear hbt hbu
        go_wp2_with fail
        go_ret
        exact ⟨congrArg (fun b => Ending.returned (.bool b)) (a₁ := false) (by rw [← HFD.out, findT_at hgt, decide_eq_false he]), HX.out⟩
theorem has_none {w : World} {F : Nat → Prop} {k : Nat} {u : PT k} (hn : IsN w F k u) : Calls Try.prog 153 #[.pointer none, ptr k u] w fun e w' => e = .returned (.bool false) ∧ Ext w w' := by
  have h1 := height_nil w
  have h2 := height_any hn
  have h3 := fun W => eql_nil_some (P := Try.prog) W ⟨addr k u, 0, none⟩ Try.underlying28
  clear hn
  go_enter Try.func153, Try.ntmps153
  go_wp2_with fail
  go_loopw [0] (fun v wr => v = .pointer none ∧ wr = w) (fun _ _ => 0)
  case atStart => exact ⟨rfl, rfl⟩
  case round =>
    obtain ⟨rfl, rfl⟩ := hrel
    go_wp2_with fail
    refine h1.mono ?_
    rintro e w1 ⟨rfl, rfl⟩
    go_wp2_with fail
    refine h2.mono ?_
    rintro e w1 ⟨rfl, rfl⟩
    have g : ¬ (k : Int) < 0 := by omega
    go_wp2_with fail
    go_ret
    exact ⟨rfl, Ext.refl _⟩
theorem has_any {w : World} {F G : Nat → Prop} {T : RT} {k : Nat} {u : PT k} (hF : ∀ b, F b → b < w.heap.size) (hT : IsT w F T) (ok : OkR T) (hc : (entsT T).length ≤ 900000) (hG : ∀ b, G b → b < w.heap.size) (hu : IsN w G k u) :
    Calls Try.prog 153 #[rootV T, ptr k u] w fun e w' => e = .returned (.bool (hasR T k u)) ∧ Ext w w' := by
  match T, hT, ok, hc with
  | none, _, _, _ => exact has_none hu
  | some ⟨h, t⟩, hT, ok, hc => exact has_some hF hT ok.1 ok.2.2 (Nat.le_trans hc (by decide)) (Nat.lt_of_lt_of_le (height_lt h t ok.1 ok.2.1) (Nat.le_trans hc (by decide))) hG hu
theorem freshN_le {has : (k : Nat) → PT k → Bool} : ∀ (h : Nat) (u : PT h), OkT h u → 1 ≤ size h u → freshN has h u ≤ (h + 1) * (ents h u).length
  | 0, u, _, hs => by
    have : 1 ≤ (ents 0 u).length := hs
    simp only [freshN]; split <;> omega
  | h + 1, u, ok, hs => by
    have hp : 0 < (ents (h + 1) u).length := Nat.lt_of_le_of_lt (Nat.zero_le _) (height_lt (h + 1) u ok hs)
    have hk : ∀ (l : List (PT h)), (∀ x ∈ l, freshN has h x ≤ (h + 1) * (ents h x).length) → (l.map (freshN has h)).sum ≤ (h + 1) * (l.flatMap (ents h)).length := fun l => by
      induction l with
      | nil => intro _; exact Nat.zero_le _
      | cons a l ih =>
        intro hl
        have h1 := hl a (List.mem_cons_self ..)
        have h2 := ih fun x hx => hl x (List.mem_cons_of_mem _ hx)
        rw [List.map_cons, List.sum_cons, List.flatMap_cons, List.length_append, Nat.mul_add]
        omega
    have h1 := hk u.2 fun x hx => freshN_le h x (ok.2.2 x hx).1 (by have := (ok.2.2 x hx).2; omega)
    have h2 : (h + 1 + 1) * (ents (h + 1) u).length = (h + 1) * (ents (h + 1) u).length + (ents (h + 1) u).length := Nat.succ_mul _ _
    have h3 : (h + 1) * (ents (h + 1) u).length = (h + 1) * (u.2.flatMap (ents h)).length := rfl
    simp only [freshN]
    split
    · omega
    · omega
theorem sum_take {α : Type} {f : α → Nat} : ∀ {l : List α} {j : Nat} {x : α}, l[j]? = some x → ((l.take (j + 1)).map f).sum = ((l.take j).map f).sum + f x := fun {l j x} h => by
  rw [List.take_add_one, h]
  simp
theorem sum_take_le {α : Type} {f : α → Nat} (l : List α) (j : Nat) : ((l.take j).map f).sum ≤ (l.map f).sum := by
  conv => rhs; rw [← List.take_append_drop j l, List.map_append, List.sum_append]
  omega
set_option maxRecDepth 100000 in
set_option maxHeartbeats 4000000 in
theorem fresh_succ {T : RT} {h : Nat}
    (ih : ∀ (u : PT h) (w : World) (F G : Nat → Prop), (∀ b, F b → b < w.heap.size) → IsT w F T → (∀ b, G b → b < w.heap.size) → IsN w G h u → OkT h u → 1 ≤ size h u → (ents h u).length ≤ 900000 → Calls Try.prog 112 #[rootV T, ptr h u] w fun e w' => e = .returned (.int .i64 (freshN (hasR T) h u)) ∧ Ext w w')
    (ok : OkR T) (hc : (entsT T).length ≤ 900000) {u : PT (h + 1)} {w : World} {F G : Nat → Prop} (hF : ∀ b, F b → b < w.heap.size) (hT : IsT w F T) (hG : ∀ b, G b → b < w.heap.size) (hu : IsN w G (h + 1) u) (oku : OkT (h + 1) u) (hcu : (ents (h + 1) u).length ≤ 900000) :
    Calls Try.prog 112 #[rootV T, ptr (h + 1) u] w fun e w' => e = .returned (.int .i64 (freshN (hasR T) (h + 1) u)) ∧ Ext w w' := by
  have hsz : 1 ≤ size (h + 1) u := by have := oku.1; show 1 ≤ u.2.length; omega
  have hlt := height_lt (h + 1) u oku hsz
  have hb1 := freshN_le (has := hasR T) (h + 1) u oku hsz
  have hbs : 1 + (u.2.map (freshN (hasR T) h)).sum ≤ 900001 * 900000 + 1 := by
    have hk : ∀ (l : List (PT h)), (∀ x ∈ l, freshN (hasR T) h x ≤ (h + 1) * (ents h x).length) → (l.map (freshN (hasR T) h)).sum ≤ (h + 1) * (l.flatMap (ents h)).length := fun l => by
      induction l with
      | nil => intro _; exact Nat.zero_le _
      | cons a l ih =>
        intro hl
        have h1 := hl a (List.mem_cons_self ..)
        have h2 := ih fun x hx => hl x (List.mem_cons_of_mem _ hx)
        rw [List.map_cons, List.sum_cons, List.flatMap_cons, List.length_append, Nat.mul_add]
        omega
    have h1 := hk u.2 fun x hx => freshN_le h x (oku.2.2 x hx).1 (by have := (oku.2.2 x hx).2; omega)
    have h2 : (h + 1) * (u.2.flatMap (ents h)).length ≤ 900001 * 900000 := Nat.mul_le_mul (by omega) hcu
    omega
  have hhas := has_any hF hT ok hc hG hu
  obtain ⟨p, hp⟩ := rootV_ptr T
  rw [hp] at hhas
  have hlen8 := oku.2.1
  have hlen2 := oku.1
  have hks : ∀ x ∈ u.2, IsN w G h x := hu.2.choose_spec.2.2
  have hkl : ∀ x ∈ u.2, (ents h x).length ≤ 900000 := fun x hx => by
    obtain ⟨i, hi⟩ := List.getElem?_of_mem hx
    refine Nat.le_trans ?_ hcu
    show _ ≤ (u.2.flatMap (ents h)).length
    rw [take_mid hi]; simp only [List.flatMap_append, List.flatMap_cons, List.length_append]; omega
  have HIH := Lib.hid (fun (kid : PT h) (hk : kid ∈ u.2) (W : World) (hW : Ext w W) => ih kid W F G (fun b hb => Nat.lt_of_lt_of_le (hF b hb) hW.size) (hT.agree (hW.agree hF)) (fun b hb => Nat.lt_of_lt_of_le (hG b hb) hW.size) ((hks kid hk).agree (hW.agree hG)) (oku.2.2 kid hk).1 (by have := (oku.2.2 kid hk).2; omega) (hkl kid hk))
  have HU := Lib.hid (fun (W : World) (hW : Ext w W) => hu.agree (hW.agree hG))
  have HBS := Lib.hid hbs
  rw [hp] at HIH ⊢
  clear hF hT hG hu hks hkl ih hb1 hlt hbs hp oku hsz hcu hc ok
  go_enter Try.func112, Try.ntmps112
  go_wp2_with fail
  refine hhas.mono ?_
  rintro e w1 ⟨rfl, hx1⟩
  have HX1 := Lib.hid hx1
  have hku := kids_any (HU.out w1 hx1) (by omega)
  cases hhu : hasR T (h + 1) u with
  | true =>
    clear hx1 hku hhas
    go_wp2_with fail
    go_ret
    exact ⟨by simp [freshN, hhu], HX1.out⟩
  | false =>
    clear hx1 hhas
    go_wp2_with fail
    refine hku.mono ?_
    rintro e w2 ⟨s', rfl, hown, hx2⟩
    have hrd : Rd w2 (Lt w2.heap.size) 1 s' u.2.length (ptrs h u.2) := (Rd.of_own hown).mono fun i hi => hi.2
    obtain ⟨g, cap, rfl, hbg, hnc, hcm, hfil⟩ := own_block hown (by omega)
    have HRD := Lib.hid hrd
    have HX2 := Lib.hid (HX1.out.trans hx2)
    have hw0 : w2.heap.size = w2.heap.size := rfl
    clear hown hrd hfil hx2 hku
    go_wp2_with fail
    go_loopw [5, 18] (fun v i wr => ∃ j n : Nat, j ≤ u.2.length ∧ i = .int .i64 j ∧ v = .int .i64 (n : Int) ∧ n = 1 + ((u.2.take j).map (freshN (hasR T) h)).sum ∧ Ext w2 wr) (fun _ i _ => u.2.length - (intOf i).toNat)
    case atStart => exact ⟨0, 1, Nat.zero_le _, rfl, rfl, rfl, Ext.refl _⟩
    case round =>
      obtain ⟨j, n, hj, rfl, rfl, hn, hX⟩ := hrel
      have HN := Lib.hid hn
      have HX := Lib.hid hX
      have hle := sum_take_le (f := freshN (hasR T) h) u.2 j
      have HLE := Lib.hid hle
      by_cases hlt : j < u.2.length
      · obtain ⟨kid, hkid⟩ : ∃ kid, u.2[j]? = some kid := ⟨_, List.getElem?_eq_getElem hlt⟩
        obtain ⟨b, o, hba, hbl, -, -, hbc⟩ := (HRD.out.agree (hX.agree fun _ h => h)).ptr_at hkid
        obtain ⟨rfl, rfl⟩ : g = b ∧ 0 = o := by simpa using hba
        have kc : wr.cell? ⟨g, j, none⟩ = some (ptr h kid) := by simpa using hbc
        have hjl : (j : Int) < (u.2.length : Int) := by omega
        have hic := HIH.out kid (List.mem_of_getElem? hkid) wr (HX2.out.trans hX)
        have hst := sum_take (f := freshN (hasR T) h) hkid
        have hle1 := sum_take_le (f := freshN (hasR T) h) u.2 (j + 1)
        have hbs := HBS.out
        obtain ⟨fk, hfk⟩ : ∃ fk, freshN (hasR T) h kid = fk := ⟨_, rfl⟩
        rw [hfk] at hic hst
        have hn' : n + fk = 1 + ((u.2.take (j + 1)).map (freshN (hasR T) h)).sum := by omega
        have hww : IntKind.i64.wrap ((n : Int) + (fk : Int)) = (n : Int) + (fk : Int) := by
          rw [IntKind.wrap_i64]; omega
        have HN' := Lib.hid hn'
        clear hX hkid hba hbc hle hst hle1 hbs hn hn' hfk
        go_wp2_with fail
        refine hic.mono ?_
        rintro e w3 ⟨rfl, hx3⟩
        have HX3 := Lib.hid hx3
        clear hx3 hic
        go_wp2_with fail
        go_roundw
        case rel => exact ⟨j + 1, n + fk, hlt, by go_num, by go_num, HN'.out, HX.out.trans HX3.out⟩
        case measure => simp [intOf]; omega
      · obtain rfl : j = u.2.length := by omega
        clear hX hn hle
        go_wp2_with fail
        go_ret
        refine ⟨?_, HX2.out.trans HX.out⟩
        have := HN.out
        rw [List.take_length] at this
        rw [this]
        simp [freshN, hhu]
theorem fresh_zero {T : RT} (ok : OkR T) (hc : (entsT T).length ≤ 900000) {u : PT 0} {w : World} {F G : Nat → Prop} (hF : ∀ b, F b → b < w.heap.size) (hT : IsT w F T) (hG : ∀ b, G b → b < w.heap.size) (hu : IsN w G 0 u) :
    Calls Try.prog 112 #[rootV T, ptr 0 u] w fun e w' => e = .returned (.int .i64 (freshN (hasR T) 0 u)) ∧ Ext w w' := by
  have hhas := has_any hF hT ok hc hG hu
  obtain ⟨p, hp⟩ := rootV_ptr T
  rw [hp] at hhas ⊢
  have HU := Lib.hid (fun (W : World) (hW : Ext w W) => hu.agree (hW.agree hG))
  clear hF hT hG hu hp hc ok
  go_enter Try.func112, Try.ntmps112
  go_wp2_with fail
  refine hhas.mono ?_
  rintro e w1 ⟨rfl, hx1⟩
  have HX1 := Lib.hid hx1
  have hku := kids_leaf (HU.out w1 hx1)
  cases hhu : hasR T 0 u with
  | true =>
    clear hx1 hku hhas
    go_wp2_with fail
    go_ret
    exact ⟨by simp [freshN, hhu], HX1.out⟩
  | false =>
    clear hx1 hhas
    go_wp2_with fail
    refine hku.mono ?_
    rintro e w2 ⟨rfl, rfl⟩
    go_wp2_with fail
    go_loopw [5, 18] (fun v i wr => v = .int .i64 1 ∧ i = .int .i64 0 ∧ wr = w1) (fun _ _ _ => 0)
    case atStart => exact ⟨rfl, rfl, rfl⟩
    case round =>
      obtain ⟨rfl, rfl, rfl⟩ := hrel
      go_wp2_with fail
      go_ret
      exact ⟨by simp [freshN, hhu], HX1.out⟩
theorem fresh_any {T : RT} (ok : OkR T) (hc : (entsT T).length ≤ 900000) : ∀ (h : Nat) (u : PT h) (w : World) (F G : Nat → Prop), (∀ b, F b → b < w.heap.size) → IsT w F T → (∀ b, G b → b < w.heap.size) → IsN w G h u → OkT h u → 1 ≤ size h u → (ents h u).length ≤ 900000 → Calls Try.prog 112 #[rootV T, ptr h u] w fun e w' => e = .returned (.int .i64 (freshN (hasR T) h u)) ∧ Ext w w'
  | 0, u, w, F, G, hF, hT, hG, hu, _, _, _ => fresh_zero ok hc hF hT hG hu
  | h + 1, u, w, F, G, hF, hT, hG, hu, oku, _, hcu => fresh_succ (fresh_any ok hc h) ok hc hF hT hG hu oku hcu
theorem fresh_root {T T' : RT} {w : World} {F G : Nat → Prop} (ok : OkR T) (hc : (entsT T).length ≤ 900000) (hF : ∀ b, F b → b < w.heap.size) (hT : IsT w F T) (ok' : OkR T') (hc' : (entsT T').length ≤ 900000) (hG : ∀ b, G b → b < w.heap.size) (hT' : IsT w G T') :
    Calls Try.prog 112 #[rootV T, rootV T'] w fun e w' => e = .returned (.int .i64 (freshR T T')) ∧ Ext w w' := by
  match T', ok', hc', hT' with
  | none, _, _, _ => exact (fresh_nil w _).mono fun e w' ⟨h1, h2⟩ => ⟨h1, h2 ▸ Ext.refl _⟩
  | some ⟨h, u⟩, ok', hc', hT' => exact fresh_any ok hc h u w F G hF hT hG hT' ok'.1 ok'.2.1 hc'
theorem treeFresh_any {T T' : RT} {w : World} {F G : Nat → Prop} {p q : Option Addr} (hp : rootV T = .pointer p) (hq : rootV T' = .pointer q) (ok : OkR T) (hc : (entsT T).length ≤ 900000) (hF : ∀ b, F b → b < w.heap.size) (hT : IsT w F T) (ok' : OkR T') (hc' : (entsT T').length ≤ 900000) (hG : ∀ b, G b → b < w.heap.size) (hT' : IsT w G T') :
    Calls Try.prog 65 #[.agg #[.pointer p], .agg #[.pointer q]] w fun e w' => e = .returned (.int .i64 (freshR T T')) ∧ Ext w w' := by
  have hx := ((Ext.refl w).alloc #[.pointer p] 30).alloc #[.pointer q] 30
  have HC := Lib.hid (fun (W : World) (hW : Ext w W) => fresh_root ok hc (fun b hb => Nat.lt_of_lt_of_le (hF b hb) hW.size) (hT.agree (hW.agree hF)) ok' hc' (fun b hb => Nat.lt_of_lt_of_le (hG b hb) hW.size) (hT'.agree (hW.agree hG)))
  rw [hp, hq] at HC
  have HX := Lib.hid hx
  clear hx hp hq ok hc hF hT ok' hc' hG hT'
  go_enter Try.func65, Try.ntmps65
  go_wp2_with fail
  refine (HC.out _ HX.out).mono ?_
  rintro e w1 ⟨rfl, hx1⟩
  go_wp2_with fail
  go_ret
  exact ⟨rfl, HX.out.trans hx1⟩
theorem AllA.mono {p q : Nat → Prop} (hq : ∀ b, p b → q b) : ∀ {h : Nat} {t : PT h}, AllA p h t → AllA q h t
  | 0, _, h1 => hq _ h1
  | _ + 1, _, ⟨h1, h4⟩ => ⟨hq _ h1, fun k hk => (h4 k hk).mono hq⟩
theorem DelR.addr {B : Nat} {k : ByteArray} : ∀ {h : Nat} {t u : PT h}, DelR B k h t u → B ≤ Proofs.Ytpapoalgocmlaaa.addr h u
  | 0, _, _, h => h.2
  | _ + 1, _, _, h => h.2
theorem PairR.addr {B : Nat} : ∀ {h : Nat} {l r : PT h} {ts : List (PT h)}, PairR B h l r ts → ∀ u ∈ ts, B ≤ Proofs.Ytpapoalgocmlaaa.addr h u
  | 0, _, _, _, h => h.2
  | _ + 1, _, _, _, h => h.2
theorem PairR.ne {B : Nat} : ∀ {h : Nat} {l r : PT h} {ts : List (PT h)}, PairR B h l r ts → ts ≠ [] := fun {h l r ts} hp e => by
  subst e
  have := hp.len
  simp at this
theorem DelT.root {B : Nat} {k : ByteArray} {T : RT} {h : Nat} {u : PT h} (hd : DelT B k T (some ⟨h, u⟩)) (ok : OkR T) : (getE (entsT T) k = Option.none ∧ T = some ⟨h, u⟩) ∨ B ≤ addr h u := by
  cases hd with
  | no h => exact .inl ⟨h, rfl⟩
  | same hg hd hp h2 => exact .inr hd.addr
  | down hg hd =>
    rename_i t
    obtain ⟨kid, kid', hk, hr, ⟨h1, h2⟩ | ⟨h1, l, r, ts, h2, h3, h4, h5⟩⟩ := hd
    · have := congrArg List.length h2
      have ok2 : 2 ≤ t.2.length := ok.1.1
      simp at this; omega
    · have hts := h4.ne
      have hm : ∀ x ∈ ts, x ∈ [u] := fun x hx => by rw [h5]; simp [hx]
      obtain ⟨x, hx⟩ := List.exists_mem_of_ne_nil ts hts
      have := List.mem_singleton.1 (hm x hx)
      exact .inr (this ▸ h4.addr x hx)
end Go.Proofs.Ytpapoalgocmlaaa
