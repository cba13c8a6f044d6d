/- Log.All again: where the box of the iterator lies above boxes that the loop writes. -/
import Derived.Test.YtpapoalgocmlaaaLogAll
namespace Go.Proofs.Ytpapoalgocmlaaa
open Go.RowKit Go.Shelf
set_option linter.unusedVariables false
set_option linter.unusedSimpArgs false
attribute [local go_sem] Oper.semAt_some

/-- What a round keeps: what lay below n₀, and the iterator's box. -/
def KB (n₀ B : Nat) (W W' : World) : Prop := Below n₀ W W' ∧ W'.heap[B]? = W.heap[B]?
theorem KB.trans {n₀ B : Nat} {a b c : World} (h : KB n₀ B a b) (k : KB n₀ B b c) : KB n₀ B a c := ⟨h.1.trans k.1, k.2.trans h.2⟩
theorem KB.ext {n₀ B : Nat} {w W W' : World} (h : KB n₀ B w W) (he : Ext W W') (hn : n₀ ≤ w.heap.size) (hB : B < w.heap.size) : KB n₀ B w W' :=
  ⟨h.1.trans (he.below.mono (Nat.le_trans hn h.1.size)), (he.heap (Nat.lt_of_lt_of_le hB h.1.size)).trans h.2⟩
theorem KB.put {n₀ B : Nat} {w : World} (hn : n₀ ≤ w.heap.size) (hB : B < w.heap.size) (W : World) (l : Nat) (o o' : Obj) (hl : w.heap.size ≤ l) (h : W.heap[l]? = some o) (hc : o.isCells = false) (hw : o.isWalk = false) : KB n₀ B W (W.putObj l o') :=
  ⟨belowK_b hn W l o o' hl h hc hw, World.putObj_heap_other (by omega)⟩
def LeadsB (n₀ : Nat) (w : World) (p : Option Addr) : Prop := Leads w p ∧ ∀ a, p = some a → a.block < n₀
theorem LeadsB.agree {n₀ : Nat} {w w' : World} {p : Option Addr} (h : LeadsB n₀ w p) (hb : Below n₀ w w') : Leads w' p := h.1.agree (Agree.of_below hb (F := Lt n₀) fun _ h => h) h.2
abbrev ToldB (n₀ : Nat) (w : World) := { p : Nat × Option Addr // p.1 < 18446744073709551616 ∧ LeadsB n₀ w p.2 }
abbrev toldB {n₀ : Nat} {w : World} (x : ToldB n₀ w) : Array Value := #[.int .u64 x.1.1, .agg #[.pointer x.1.2]]

set_option maxRecDepth 100000 in
set_option maxHeartbeats 1000000 in
theorem all_stopsB {w : World} {L R keep f : Nat} {ps : List (Option Addr)} (n₀ : Nat) (hn₀ : n₀ ≤ w.heap.size) (h : LogAt w L R keep f (ps.map .pointer)) (hLn : L < n₀) (hRn : R < n₀) (h0 : 1 ≤ ps.length) (hle : ∀ q ∈ ps, LeadsB n₀ w q) (B : Nat) (hB : w.cell? ⟨B, 0, none⟩ = some (logV L)) (hBl : B < w.heap.size) (n : Nat) (hn : 1 ≤ n) :
    SeqStopsK Fence.wide n Try.prog 96 #[.pointer (some ⟨B, 0, none⟩)] (toldB (n₀ := n₀) (w := w)) (KB n₀ B) (fun ys => ys.map Subtype.val = toldL keep f ps) (fun pre => pre.map Subtype.val <+: toldL keep f ps) (min ps.length keep) w := fun l J Jx W hW hJ hJx hY h00 => by
  have hlen : min ps.length keep = min (ps.map Value.pointer).length keep := by simp
  obtain ⟨m, hm⟩ : ∃ m, min ps.length keep = m := ⟨_, rfl⟩
  obtain ⟨o, ho⟩ : ∃ o, f + gone keep ps = o := ⟨_, rfl⟩
  have hkeep : 1 ≤ keep := h.elim fun r h => h.1.pos
  have hm1 : 1 ≤ m := by omega
  have hoo : f + ((ps.map Value.pointer).length - min (ps.map Value.pointer).length keep) = o := by rw [← ho]; simp [gone]
  have hom : o + m = f + ps.length := by rw [← ho, ← hm]; unfold gone; omega
  have hnew : lastV f (ps.map Value.pointer) = o + m - 1 := by unfold lastV; rw [List.length_map, if_neg (by omega)]; omega
  have hmax : o + m - 1 ≤ 4611686018427387903 := by rw [← hnew]; exact h.elim fun r h => h.1.num
  have hold : ∀ W', LogAt W' L R keep f (ps.map .pointer) → Calls Try.prog 43 #[logV L] W' fun e w' => e = .returned (.tuple #[.int .u64 (o : Nat), .bool true]) ∧ Ext W' w' := fun W' hW' => by
    have := oldest_log hW' (by simpa using h0)
    rwa [hoo] at this
  have HOLD := Lib.hid hold
  have HOM := Lib.hid hom
  have HM := Lib.hid hm
  have HO := Lib.hid ho
  have HNEW := Lib.hid hnew
  have hsz := hW.size
  clear hoo hlen hm ho hnew hold hom
  have hLW : LogAt W L R keep f (ps.map .pointer) := h.agree (Agree.of_below hW (F := Lt w.heap.size) fun _ h => h) h.lt.1 h.lt.2
  have hBW : W.cell? ⟨B, 0, none⟩ = some (logV L) := (hW.cell (p := ⟨B, 0, none⟩) hBl).trans hB
  refine callsIn_of_wp Try.func96 rfl trivial ?_ rfl
  simp only [Try.ntmps96, List.size_toArray, List.length_cons, List.length_nil, Nat.reduceAdd, Nat.reduceSub, Array.replicate_succ, Array.replicate_zero, List.push_toArray, List.append_toArray, List.nil_append, List.cons_append]
  gi_wp2_with (refine ⟨trivial, ?_⟩; gi_at_call 43; refine (callsIn_wide.2 (HOLD.out W hLW)).mono ?_; rintro e w1 ⟨rfl, hx1⟩)
  have HH := Lib.hid h
  have HJ1 := Lib.hid (hJ [] W w1 none h00 hx1.grown (fun r e => by cases e))
  have HB1 := Lib.hid (KB.ext ⟨hW.mono hn₀, hW.block B hBl⟩ hx1 hn₀ hBl)
  have HY := Lib.hid hY
  have HJ := Lib.hid hJ
  have HLE := Lib.hid hle
  clear hY hJ hJx h00 hx1 hLW hBW h hle hW
  gi_loopw [3] (fun v wr => ∃ pre : List (ToldB n₀ w), v = .int .u64 ((o + pre.length : Nat) : Int) ∧ pre.map Subtype.val = (toldL keep f ps).take pre.length ∧ pre.length ≤ m ∧ J pre wr ∧ KB n₀ B w wr) (fun v _ => o + m - (intOf v).toNat)
  case atStart => exact ⟨[], rfl, rfl, Nat.zero_le _, HJ1.out, HB1.out⟩
  case round =>
    obtain ⟨pre, rfl, hpre, hple, hjr, hbr⟩ := hrel
    have HPRE := Lib.hid hpre
    have HJR := Lib.hid hjr
    have HBR := Lib.hid hbr
    have hLr : LogAt wr L R keep f (ps.map .pointer) := HH.out.agree (Agree.of_below hbr.1 (F := Lt n₀) fun _ h => h) hLn hRn
    have hcB : wr.cell? ⟨B, 0, none⟩ = some (logV L) := (World.cell?_of_block (a := ⟨B, 0, none⟩) hbr.2).trans hB
    obtain ⟨ring, hl, -⟩ := id hLr
    obtain ⟨-, c1, -⟩ := hl.blk.c3
    rw [HNEW.out] at c1
    have HLR := Lib.hid hLr
    clear hpre hjr hbr hLr hl
    by_cases hlt : pre.length < m
    · have g1 : decide (((o + pre.length : Nat) : Int) ≤ ((o + m - 1 : Nat) : Int)) = true := decide_eq_true (by omega)
      have g1' : ((o + pre.length : Nat) : Int) ≤ ((o + m - 1 : Nat) : Int) := by omega
      have hat := at_log HLR.out (o + pre.length) (by omega)
      rw [Int.natCast_add] at hat
      have HAT := Lib.hid hat
      clear hat
      gi_wp2_with fail
      refine ⟨trivial, ?_⟩
      refine (callsIn_wide.2 HAT.out).mono ?_
      rintro e w2 ⟨hk | ⟨q, hq, rfl⟩, hx2⟩
      · exact absurd ⟨by have := HO.out; omega, by rw [List.length_map]; have := HO.out; have := HOM.out; omega, by rw [List.length_map]; have := HO.out; have := HM.out; have := HOM.out; omega⟩ hk.1
      have hqm : ps[gone keep ps + pre.length]? = some q := by
        have h4 := hq.2.2.2
        rw [List.getElem?_map, show o + pre.length - f = gone keep ps + pre.length from by have := HO.out; omega] at h4
        cases hg : ps[gone keep ps + pre.length]? with
        | none => rw [hg] at h4; cases h4
        | some q' => rw [hg] at h4; simp at h4; rw [h4]
      have hqt : (toldL keep f ps)[pre.length]? = some (o + pre.length, q) := by
        rw [toldL_at (by rw [HM.out]; exact hlt), HO.out, List.getD_eq_getElem?_getD, hqm]; rfl
      have hql : LeadsB n₀ w q := HLE.out q (List.mem_of_getElem? hqm)
      have hx3 : Ext wr (w2.alloc (.cells #[.pointer q] 30)) := hx2.alloc _ _
      have hj3 := HJ.out pre wr _ none HJR.out hx3.grown (fun r e => by cases e)
      obtain ⟨X, hX⟩ : ∃ X : ToldB n₀ w, X.1 = (o + pre.length, q) := ⟨⟨(o + pre.length, q), by show o + pre.length < _; omega, hql⟩, rfl⟩
      obtain ⟨fn, tmps, assign, body, hy, hR⟩ := HY.out pre X _ hj3 (by rw [HM.out]; exact hlt)
      dsimp only [toldB] at hy
      rw [hX] at hy
      have hpx : (pre ++ [X]).map Subtype.val = (toldL keep f ps).take (pre ++ [X]).length := by
        rw [List.map_append, HPRE.out, List.length_append]
        simp [List.take_add_one, hqt, hX]
      have HPX := Lib.hid hpx
      simp only [Int.natCast_add] at hy
      have HQT := Lib.hid hqt
      have HR := Lib.hid hR
      have HX3 := Lib.hid hx3
      clear hx2 hq hqm hqt hx3 hj3 hR hpx hX
      gi_wp2_with fail
      refine HR.out.mono ?_
      rintro e W4 (⟨rfl, hj4, hk4⟩ | ⟨rfl, hjx4⟩)
      · have hb4 : KB n₀ B w W4 := (KB.ext HBR.out HX3.out hn₀ hBl).trans hk4
        have hL4 : LogAt W4 L R keep f (ps.map .pointer) := HH.out.agree (Agree.of_below hb4.1 (F := Lt n₀) fun _ h => h) hLn hRn
        have hcB4 : W4.cell? ⟨B, 0, none⟩ = some (logV L) := (World.cell?_of_block (a := ⟨B, 0, none⟩) hb4.2).trans hB
        have HJ4 := Lib.hid hj4
        have HB4 := Lib.hid hb4
        have HL4 := Lib.hid hL4
        have hw1 : IntKind.u64.wrap ((o : Int) + (pre.length : Int) + 1) = (o : Int) + (pre.length : Int) + 1 := by rw [IntKind.wrap_u64]; omega
        clear hj4 hk4 hb4 hL4 hy
        gi_wp2_with fail
        refine ⟨trivial, ?_⟩
        refine (callsIn_wide.2 (HOLD.out W4 HL4.out)).mono ?_
        rintro e w5 ⟨rfl, hx5⟩
        have HX5 := Lib.hid hx5
        clear hx5
        gi_wp2_with fail
        go_roundw
        case rel =>
          refine ⟨pre ++ [X], ?_, HPX.out, by simp; omega, HJ.out _ W4 w5 none HJ4.out HX5.out.grown (fun r e => by cases e), KB.ext HB4.out HX5.out hn₀ hBl⟩
          simp; omega
        case measure => simp [intOf]; omega
      · gi_wp2_with fail
        refine bodyPost_ret (results_none rfl _ _ _) rfl ?_
        exact ⟨⟨_, rfl⟩, .inr ⟨pre ++ [X], by rw [HPX.out]; exact List.take_prefix _ _, hjx4⟩⟩
    · have g1 : decide (((o + pre.length : Nat) : Int) ≤ ((o + m - 1 : Nat) : Int)) = false := decide_eq_false (by omega)
      have g1' : ¬ ((o + pre.length : Nat) : Int) ≤ ((o + m - 1 : Nat) : Int) := by omega
      gi_wp2_with fail
      go_end0
      exact ⟨⟨_, rfl⟩, .inl ⟨pre, by rw [HPRE.out, List.take_of_length_le (by rw [toldL_len]; have := HM.out; omega)], HJR.out⟩⟩

end Go.Proofs.Ytpapoalgocmlaaa
