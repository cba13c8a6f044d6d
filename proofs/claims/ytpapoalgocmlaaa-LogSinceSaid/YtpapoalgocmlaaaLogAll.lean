/- Log.All: what an iteration over a log is told. -/
import Derived.RangeFuncNested
import Derived.RangeFuncBound
import Derived.RangeFuncCalls
import Derived.RangeFuncLeaves
import Derived.Shelf.Abstract
import Derived.Shelf.RegionOpen
import Derived.OwnWalkIn
import Derived.TacticsInMore
import Derived.LoopNIn
import Derived.LoopIn
import Derived.Test.YtpapoalgocmlaaaLogP
import Derived.Test.YtpapoalgocmlaaaIs
namespace Go.Proofs.Ytpapoalgocmlaaa
open Go.RowKit Go.Shelf
set_option linter.unusedVariables false
set_option linter.unusedSimpArgs false
attribute [local go_sem] Oper.semAt_some

theorem Ext.grown {w w' : World} (h : Ext w w') : w.grownBy w' none := ⟨h.below.os, h.below.tape, h.below.output, h.below.size, fun k hk _ => h.below.block k hk⟩

/-- How many are not kept any more. -/
def gone (keep : Nat) (ps : List (Option Addr)) : Nat := ps.length - min ps.length keep
/-- What is told: each version that is kept, with its tree's root. -/
def toldL (keep f : Nat) (ps : List (Option Addr)) : List (Nat × Option Addr) := (List.range (min ps.length keep)).map fun i => (f + gone keep ps + i, ps.getD (gone keep ps + i) none)
theorem toldL_len (keep f : Nat) (ps : List (Option Addr)) : (toldL keep f ps).length = min ps.length keep := by simp [toldL]
theorem toldL_at {keep f : Nat} {ps : List (Option Addr)} {k : Nat} (h : k < min ps.length keep) : (toldL keep f ps)[k]? = some (f + gone keep ps + k, ps.getD (gone keep ps + k) none) := by
  simp only [toldL, List.getElem?_map, List.getElem?_range h, Option.map_some]
abbrev Told (w : World) := { p : Nat × Option Addr // p.1 < 18446744073709551616 ∧ Leads w p.2 }
abbrev toldE {w : World} (x : Told w) : Array Value := #[.int .u64 x.1.1, .agg #[.pointer x.1.2]]

theorem oldest_log {w : World} {L R keep f : Nat} {xs : List Value} (h : LogAt w L R keep f xs) (h0 : 1 ≤ xs.length) : Calls Try.prog 43 #[logV L] w fun e w' => e = .returned (.tuple #[.int .u64 (f + (xs.length - min xs.length keep) : Nat), .bool true]) ∧ Ext w w' := by
  obtain ⟨ring, hl, hh⟩ := h
  have hp := hl.pos
  refine (oldest_any hl).mono ?_
  rintro e w' ⟨rfl, q, rfl⟩
  refine ⟨?_, (Ext.refl w).drewN q⟩
  have e1 : oldV (lastV f xs) (min xs.length keep) = f + (xs.length - min xs.length keep) := by
    unfold oldV lastV
    rw [if_neg (by omega), if_neg (by omega)]; omega
  rw [e1, decide_eq_true (by omega : 0 < min xs.length keep)]

set_option maxRecDepth 100000 in
set_option maxHeartbeats 1000000 in
theorem all_stops {w : World} {L R keep f : Nat} {ps : List (Option Addr)} (h : LogAt w L R keep f (ps.map .pointer)) (h0 : 1 ≤ ps.length) (hle : ∀ q ∈ ps, Leads w q) (B : Nat) (hB : w.cell? ⟨B, 0, none⟩ = some (logV L)) (hBl : B < w.heap.size) (n : Nat) (hn : 1 ≤ n) :
    SeqStopsK Fence.wide n Try.prog 96 #[.pointer (some ⟨B, 0, none⟩)] (toldE (w := w)) (Below w.heap.size) (fun ys => ys.map Subtype.val = toldL keep f ps) (fun pre => pre.map Subtype.val <+: toldL keep f ps) (min ps.length keep) w := fun l J Jx W hW hJ hJx hY h00 => by
  have hlen : min ps.length keep = min (ps.map Value.pointer).length keep := by simp
  obtain ⟨m, hm⟩ : ∃ m, min ps.length keep = m := ⟨_, rfl⟩
  obtain ⟨o, ho⟩ : ∃ o, f + gone keep ps = o := ⟨_, rfl⟩
  have hkeep : 1 ≤ keep := h.elim fun r h => h.1.pos
  have hm1 : 1 ≤ m := by omega
  have hoo : f + ((ps.map Value.pointer).length - min (ps.map Value.pointer).length keep) = o := by rw [← ho]; simp [gone]
  have hom : o + m = f + ps.length := by rw [← ho, ← hm]; unfold gone; omega
  have hnew : lastV f (ps.map Value.pointer) = o + m - 1 := by unfold lastV; rw [List.length_map, if_neg (by omega)]; omega
  have hmax : o + m - 1 ≤ 4611686018427387903 := by rw [← hnew]; exact h.elim fun r h => h.1.num
  have hold : ∀ W', LogAt W' L R keep f (ps.map .pointer) → Calls Try.prog 43 #[logV L] W' fun e w' => e = .returned (.tuple #[.int .u64 (o : Nat), .bool true]) ∧ Ext W' w' := fun W' hW' => by
    have := oldest_log hW' (by simpa using h0)
    rwa [hoo] at this
  have HOLD := Lib.hid hold
  have HOM := Lib.hid hom
  have HM := Lib.hid hm
  have HO := Lib.hid ho
  have HNEW := Lib.hid hnew
  have hsz := hW.size
  clear hoo hlen hm ho hnew hold hom
  have hLW : LogAt W L R keep f (ps.map .pointer) := h.agree (Agree.of_below hW (F := Lt w.heap.size) fun _ h => h) h.lt.1 h.lt.2
  have hBW : W.cell? ⟨B, 0, none⟩ = some (logV L) := (hW.cell (p := ⟨B, 0, none⟩) hBl).trans hB
  refine callsIn_of_wp Try.func96 rfl trivial ?_ rfl
  simp only [Try.ntmps96, List.size_toArray, List.length_cons, List.length_nil, Nat.reduceAdd, Nat.reduceSub, Array.replicate_succ, Array.replicate_zero, List.push_toArray, List.append_toArray, List.nil_append, List.cons_append]
  gi_wp2_with (refine ⟨trivial, ?_⟩; gi_at_call 43; refine (callsIn_wide.2 (HOLD.out W hLW)).mono ?_; rintro e w1 ⟨rfl, hx1⟩)
  have HH := Lib.hid h
  have HJ1 := Lib.hid (hJ [] W w1 none h00 hx1.grown (fun r e => by cases e))
  have HB1 := Lib.hid (hW.trans (hx1.below.mono hW.size))
  have HY := Lib.hid hY
  have HJ := Lib.hid hJ
  have HLE := Lib.hid hle
  clear hY hJ hJx h00 hx1 hLW hBW h hle hW
  gi_loopw [3] (fun v wr => ∃ pre : List (Told w), v = .int .u64 ((o + pre.length : Nat) : Int) ∧ pre.map Subtype.val = (toldL keep f ps).take pre.length ∧ pre.length ≤ m ∧ J pre wr ∧ Below w.heap.size w wr) (fun v _ => o + m - (intOf v).toNat)
  case atStart => exact ⟨[], rfl, rfl, Nat.zero_le _, HJ1.out, HB1.out⟩
  case round =>
    obtain ⟨pre, rfl, hpre, hple, hjr, hbr⟩ := hrel
    have HPRE := Lib.hid hpre
    have HJR := Lib.hid hjr
    have HBR := Lib.hid hbr
    have hLr : LogAt wr L R keep f (ps.map .pointer) := HH.out.agree (Agree.of_below hbr (F := Lt w.heap.size) fun _ h => h) HH.out.lt.1 HH.out.lt.2
    have hcB : wr.cell? ⟨B, 0, none⟩ = some (logV L) := (hbr.cell (p := ⟨B, 0, none⟩) hBl).trans hB
    obtain ⟨ring, hl, -⟩ := id hLr
    obtain ⟨-, c1, -⟩ := hl.blk.c3
    rw [HNEW.out] at c1
    have HLR := Lib.hid hLr
    clear hpre hjr hbr hLr hl
    by_cases hlt : pre.length < m
    · have g1 : decide (((o + pre.length : Nat) : Int) ≤ ((o + m - 1 : Nat) : Int)) = true := decide_eq_true (by omega)
      have g1' : ((o + pre.length : Nat) : Int) ≤ ((o + m - 1 : Nat) : Int) := by omega
      have hat := at_log HLR.out (o + pre.length) (by omega)
      rw [Int.natCast_add] at hat
      have HAT := Lib.hid hat
      clear hat
      gi_wp2_with fail
      refine ⟨trivial, ?_⟩
      refine (callsIn_wide.2 HAT.out).mono ?_
      rintro e w2 ⟨hk | ⟨q, hq, rfl⟩, hx2⟩
      · exact absurd ⟨by have := HO.out; omega, by rw [List.length_map]; have := HO.out; have := HOM.out; omega, by rw [List.length_map]; have := HO.out; have := HM.out; have := HOM.out; omega⟩ hk.1
      have hqm : ps[gone keep ps + pre.length]? = some q := by
        have h4 := hq.2.2.2
        rw [List.getElem?_map, show o + pre.length - f = gone keep ps + pre.length from by have := HO.out; omega] at h4
        cases hg : ps[gone keep ps + pre.length]? with
        | none => rw [hg] at h4; cases h4
        | some q' => rw [hg] at h4; simp at h4; rw [h4]
      have hqt : (toldL keep f ps)[pre.length]? = some (o + pre.length, q) := by
        rw [toldL_at (by rw [HM.out]; exact hlt), HO.out, List.getD_eq_getElem?_getD, hqm]; rfl
      have hql : Leads w q := HLE.out q (List.mem_of_getElem? hqm)
      have hx3 : Ext wr (w2.alloc (.cells #[.pointer q] 30)) := hx2.alloc _ _
      have hj3 := HJ.out pre wr _ none HJR.out hx3.grown (fun r e => by cases e)
      obtain ⟨X, hX⟩ : ∃ X : Told w, X.1 = (o + pre.length, q) := ⟨⟨(o + pre.length, q), by show o + pre.length < _; omega, hql⟩, rfl⟩
      obtain ⟨fn, tmps, assign, body, hy, hR⟩ := HY.out pre X _ hj3 (by rw [HM.out]; exact hlt)
      dsimp only [toldE] at hy
      rw [hX] at hy
      have hpx : (pre ++ [X]).map Subtype.val = (toldL keep f ps).take (pre ++ [X]).length := by
        rw [List.map_append, HPRE.out, List.length_append]
        simp [List.take_add_one, hqt, hX]
      have HPX := Lib.hid hpx
      simp only [Int.natCast_add] at hy
      have HQT := Lib.hid hqt
      have HR := Lib.hid hR
      have HX3 := Lib.hid hx3
      clear hx2 hq hqm hqt hx3 hj3 hR hpx hX
      gi_wp2_with fail
      refine HR.out.mono ?_
      rintro e W4 (⟨rfl, hj4, hk4⟩ | ⟨rfl, hjx4⟩)
      · have hb4 : Below w.heap.size w W4 := HBR.out.trans ((HX3.out.below.mono HBR.out.size).trans hk4)
        have hL4 : LogAt W4 L R keep f (ps.map .pointer) := HH.out.agree (Agree.of_below hb4 (F := Lt w.heap.size) fun _ h => h) HH.out.lt.1 HH.out.lt.2
        have hcB4 : W4.cell? ⟨B, 0, none⟩ = some (logV L) := (hb4.cell (p := ⟨B, 0, none⟩) hBl).trans hB
        have HJ4 := Lib.hid hj4
        have HB4 := Lib.hid hb4
        have HL4 := Lib.hid hL4
        have hw1 : IntKind.u64.wrap ((o : Int) + (pre.length : Int) + 1) = (o : Int) + (pre.length : Int) + 1 := by rw [IntKind.wrap_u64]; omega
        clear hj4 hk4 hb4 hL4 hy
        gi_wp2_with fail
        refine ⟨trivial, ?_⟩
        refine (callsIn_wide.2 (HOLD.out W4 HL4.out)).mono ?_
        rintro e w5 ⟨rfl, hx5⟩
        have HX5 := Lib.hid hx5
        clear hx5
        gi_wp2_with fail
        go_roundw
        case rel =>
          refine ⟨pre ++ [X], ?_, HPX.out, by simp; omega, HJ.out _ W4 w5 none HJ4.out HX5.out.grown (fun r e => by cases e), HB4.out.trans (HX5.out.below.mono HB4.out.size)⟩
          simp; omega
        case measure => simp [intOf]; omega
      · gi_wp2_with fail
        refine bodyPost_ret (results_none rfl _ _ _) rfl ?_
        exact ⟨⟨_, rfl⟩, .inr ⟨pre ++ [X], by rw [HPX.out]; exact List.take_prefix _ _, hjx4⟩⟩
    · have g1 : decide (((o + pre.length : Nat) : Int) ≤ ((o + m - 1 : Nat) : Int)) = false := decide_eq_false (by omega)
      have g1' : ¬ ((o + pre.length : Nat) : Int) ≤ ((o + m - 1 : Nat) : Int) := by omega
      gi_wp2_with fail
      go_end0
      exact ⟨⟨_, rfl⟩, .inl ⟨pre, by rw [HPRE.out, List.take_of_length_le (by rw [toldL_len]; have := HM.out; omega)], HJR.out⟩⟩

theorem oldest_none {w : World} {L R keep f : Nat} (h : LogAt w L R keep f []) : Calls Try.prog 43 #[logV L] w fun e w' => e = .returned (.tuple #[.int .u64 0, .bool false]) ∧ Ext w w' := by
  obtain ⟨ring, hl, hh⟩ := h
  refine (oldest_any hl).mono ?_
  rintro e w' ⟨rfl, q, rfl⟩
  refine ⟨?_, (Ext.refl w).drewN q⟩
  simp [oldV]

set_option maxRecDepth 100000 in
set_option maxHeartbeats 1000000 in
theorem all_empty {w : World} (p : Option Addr) (hold : ∀ W, Below w.heap.size w W → Calls Try.prog 43 #[.pointer p] W fun e w' => e = .returned (.tuple #[.int .u64 0, .bool false]) ∧ Ext W w') (B : Nat) (hB : w.cell? ⟨B, 0, none⟩ = some (.pointer p)) (hBl : B < w.heap.size) (n : Nat) (hn : 1 ≤ n) :
    SeqStopsK Fence.wide n Try.prog 96 #[.pointer (some ⟨B, 0, none⟩)] (toldE (w := w)) (Below w.heap.size) (fun ys => ys.map Subtype.val = []) (fun pre => pre.map Subtype.val <+: []) 0 w := fun l J Jx W hW hJ hJx hY h00 => by
  have hBW : W.cell? ⟨B, 0, none⟩ = some (.pointer p) := (hW.cell (p := ⟨B, 0, none⟩) hBl).trans hB
  have hc := hold W hW
  clear hold hY hJx
  refine callsIn_of_wp Try.func96 rfl trivial ?_ rfl
  simp only [Try.ntmps96, List.size_toArray, List.length_cons, List.length_nil, Nat.reduceAdd, Nat.reduceSub, Array.replicate_succ, Array.replicate_zero, List.push_toArray, List.append_toArray, List.nil_append, List.cons_append]
  gi_wp2_with fail
  refine ⟨trivial, ?_⟩
  refine (callsIn_wide.2 hc).mono ?_
  rintro e w1 ⟨rfl, hx1⟩
  have HJ1 := Lib.hid (hJ [] W w1 none h00 hx1.grown (fun r e => by cases e))
  clear hc hx1 h00 hJ
  gi_wp2_with fail
  gi_loopw [3] (fun v wr => v = .int .u64 0 ∧ J [] wr) (fun v _ => 0)
  case atStart => exact ⟨rfl, HJ1.out⟩
  case round =>
    obtain ⟨rfl, hj⟩ := hrel
    gi_wp2_with fail
    go_end0
    exact ⟨⟨_, rfl⟩, .inl ⟨[], rfl, hj⟩⟩

/-- What is told of a log, be there a version or none. -/
theorem all_log {w : World} {L R keep f : Nat} {ps : List (Option Addr)} (h : LogAt w L R keep f (ps.map .pointer)) (hle : ∀ q ∈ ps, Leads w q) (B : Nat) (hB : w.cell? ⟨B, 0, none⟩ = some (logV L)) (hBl : B < w.heap.size) (n : Nat) (hn : 1 ≤ n) :
    SeqStopsK Fence.wide n Try.prog 96 #[.pointer (some ⟨B, 0, none⟩)] (toldE (w := w)) (Below w.heap.size) (fun ys => ys.map Subtype.val = toldL keep f ps) (fun pre => pre.map Subtype.val <+: toldL keep f ps) (min ps.length keep) w := by
  cases ps with
  | nil =>
    have := all_empty (w := w) (some ⟨L, 0, none⟩) (fun W hW => oldest_none (h.agree (Agree.of_below hW (F := Lt w.heap.size) fun _ h => h) h.lt.1 h.lt.2)) B hB hBl n hn
    simpa [toldL] using this
  | cons q ps => exact all_stops h (by simp) hle B hB hBl n hn
theorem eql_func_nil {P : Program} (w : World) {t : TypeId} {ps rs : Array TypeId} {b : Bool} (f : Fn) (ta lb : Array Value) (hp : P.underlying t = some (.func ps rs b)) :
    (binOp .eql t (.func f ta lb) .nilFunc).run P w = .ok (.bool false) w := by
  have h : ∀ d : Nat, (Op.equalIn (d + 1) t (.func f ta lb) .nilFunc).run P w = .ok false w := fun d => by
    simp [Op.equalIn, run_underlying hp]
  simp only [binOp]
  simp [Op.equal, Op.maxDepth, h 9999]
/-- Of a log without a ring, or of none, nothing is told. -/
theorem all_value (w : World) (p : Option Addr) : Calls Try.prog 40 #[.pointer p] w fun e w' => e = .returned (.func (.func 96) #[] #[.pointer (some ⟨w.heap.size, 0, none⟩)]) ∧ w' = w.alloc (.cells #[.pointer p] 23) := by
  go_enter Try.func40, Try.ntmps40
  go_wp2_with fail
  go_ret
  exact ⟨rfl, rfl⟩
end Go.Proofs.Ytpapoalgocmlaaa
