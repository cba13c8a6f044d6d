/- What the theorem needs of the texts AppP, Alike: no condition of its own. -/
import Derived.Test.YtpapoalgocmlaaaPda
import Derived.Test.YtpapoalgocmlaaaPdb
import Derived.Test.YtpapoalgocmlaaaPdc
import Derived.Test.YtpapoalgocmlaaaPdf
import Derived.Test.YtpapoalgocmlaaaPdd
import Derived.Test.YtpapoalgocmlaaaPde
import Derived.Test.YtpapoalgocmlaaaPdg
import Derived.Test.YtpapoalgocmlaaaPdh
namespace Go.Proofs.Ytpapoalgocmlaaa
open Go.RowKit
set_option linter.unusedVariables false
def alikeB (a : Bool) (v : Val) (b : Bool) (u : Val) : Bool := decide (a = b) && (!a || decide (cmpV v u = 0))
def fitsC (es : List Ent) (c : Chg) : Bool := !alikeB c.had c.was c.has c.is_ && alikeB (getE es c.k).isSome ((getE es c.k).getD zeroV) c.had c.was
def stepC (es : List Ent) (c : Chg) : List Ent := if c.has then insE es c.k c.is_ else delE es c.k
def apC : List Ent → List Chg → Option (List Ent)
  | es, [] => some es
  | es, c :: l => if fitsC es c then apC (stepC es c) l else none
theorem stepC_sorted {es : List Ent} (h : Sorted es) (c : Chg) : Sorted (stepC es c) := by
  unfold stepC; split
  · exact insE_sorted h _ _
  · exact delE_sorted h _
def turnC (c : Chg) : Chg := ⟨c.k, c.has, c.is_, c.had, c.was⟩
def backC (l : List Chg) : List Chg := (l.map turnC).reverse
end Go.Proofs.Ytpapoalgocmlaaa
namespace Go.Proofs.Ytpapoalgocmlaaa
open Go.RowKit Go.Shelf
set_option linter.unusedVariables false
set_option linter.unusedSimpArgs false
set_option maxRecDepth 100000 in
set_option maxHeartbeats 2000000 in
theorem alike_any {w : World} {a b : Bool} {v u : Val} {sl so sl' so' : Sl} (h : RV w (Lt w.heap.size) v sl so) (h' : RV w (Lt w.heap.size) u sl' so') :
    Calls Try.prog 132 #[.bool a, aggV v sl so, .bool b, aggV u sl' so'] w fun e w' => e = .returned (.bool (alikeB a v b u)) ∧ Ext w w' := by
  have hs := fun (W : World) (hW : Ext w W) => valueSame_any ((h.agree (hW.agree fun _ h => h)).mono fun i (hi : i < w.heap.size) => Nat.lt_of_lt_of_le hi hW.size) ((h'.agree (hW.agree fun _ h => h)).mono fun i (hi : i < w.heap.size) => Nat.lt_of_lt_of_le hi hW.size)
  obtain ⟨d, hd⟩ : ∃ d, decide (cmpV v u = 0) = d := ⟨_, rfl⟩
  have hr : alikeB a v b u = (decide (a = b) && (!a || d)) := by rw [alikeB, hd]
  rw [hr]
  have hS : ∀ W, Ext w W → Calls Try.prog 120 #[aggV v sl so, aggV u sl' so'] W fun e w' => e = .returned (.bool d) ∧ Ext W w' := fun W hW => by rw [← hd]; exact hs W hW
  have HS := Lib.hid hS
  have hx : Ext w ((w.alloc (.cells #[.int .i64 v.kind, .bool v.b, .int .i64 v.i, .string v.t, .slice sl.a v.l.length sl.c, .slice so.a v.ok.length so.c] 49)).alloc (.cells #[.int .i64 u.kind, .bool u.b, .int .i64 u.i, .string u.t, .slice sl'.a u.l.length sl'.c, .slice so'.a u.ok.length so'.c] 49)) := ((Ext.refl w).alloc _ _).alloc _ _
  have HX := Lib.hid hx
  clear hs hd hr h h' hS hx
  cases a <;> cases b
  · go_enter Try.func132, Try.ntmps132
    go_wp2_with fail
    go_ret
    exact ⟨rfl, HX.out⟩
  · go_enter Try.func132, Try.ntmps132
    go_wp2_with fail
    go_ret
    exact ⟨rfl, HX.out⟩
  · go_enter Try.func132, Try.ntmps132
    go_wp2_with fail
    go_ret
    exact ⟨rfl, HX.out⟩
  · go_enter Try.func132, Try.ntmps132
    go_wp2_with fail
    refine (HS.out _ HX.out).mono ?_
    rintro e w1 ⟨rfl, hx1⟩
    have HX1 := Lib.hid (HX.out.trans hx1)
    clear hx1
    cases d
    all_goals
      go_wp2_with fail
      go_ret
      exact ⟨rfl, HX1.out⟩
theorem c15_of {W : World} {b p : Nat} {x : CE} (h : ∀ c u, x.cells.toList[c]? = some u → W.cell? ⟨b, p + c, none⟩ = some u) :
    W.cell? ⟨b, p, none⟩ = some (.string x.c.k) ∧ W.cell? ⟨b, p + 1, none⟩ = some (.bool x.c.had) ∧ W.cell? ⟨b, p + 2, none⟩ = some (.int .i64 x.c.was.kind) ∧ W.cell? ⟨b, p + 3, none⟩ = some (.bool x.c.was.b) ∧ W.cell? ⟨b, p + 4, none⟩ = some (.int .i64 x.c.was.i) ∧ W.cell? ⟨b, p + 5, none⟩ = some (.string x.c.was.t) ∧ W.cell? ⟨b, p + 6, none⟩ = some (.slice x.slw.a x.c.was.l.length x.slw.c) ∧ W.cell? ⟨b, p + 7, none⟩ = some (.slice x.sow.a x.c.was.ok.length x.sow.c) ∧
      W.cell? ⟨b, p + 8, none⟩ = some (.bool x.c.has) ∧ W.cell? ⟨b, p + 9, none⟩ = some (.int .i64 x.c.is_.kind) ∧ W.cell? ⟨b, p + 10, none⟩ = some (.bool x.c.is_.b) ∧ W.cell? ⟨b, p + 11, none⟩ = some (.int .i64 x.c.is_.i) ∧ W.cell? ⟨b, p + 12, none⟩ = some (.string x.c.is_.t) ∧ W.cell? ⟨b, p + 13, none⟩ = some (.slice x.sli.a x.c.is_.l.length x.sli.c) ∧ W.cell? ⟨b, p + 14, none⟩ = some (.slice x.soi.a x.c.is_.ok.length x.soi.c) :=
  ⟨h 0 _ rfl, h 1 _ rfl, h 2 _ rfl, h 3 _ rfl, h 4 _ rfl, h 5 _ rfl, h 6 _ rfl, h 7 _ rfl, h 8 _ rfl, h 9 _ rfl, h 10 _ rfl, h 11 _ rfl, h 12 _ rfl, h 13 _ rfl, h 14 _ rfl⟩
set_option maxRecDepth 100000 in
set_option maxHeartbeats 2000000 in
theorem idle_any {w : World} {x : CE} (h : CR w (Lt w.heap.size) x) : Calls Try.prog 131 #[x.agg] w fun e w' => e = .returned (.bool (alikeB x.c.had x.c.was x.c.has x.c.is_)) ∧ Ext w w' := by
  have hS := fun (W : World) (hW : Ext w W) => alike_any (a := x.c.had) (b := x.c.has) ((h.was.agree (hW.agree fun _ h => h)).mono fun i (hi : i < w.heap.size) => Nat.lt_of_lt_of_le hi hW.size) ((h.is_.agree (hW.agree fun _ h => h)).mono fun i (hi : i < w.heap.size) => Nat.lt_of_lt_of_le hi hW.size)
  obtain ⟨d, hd⟩ : ∃ d, alikeB x.c.had x.c.was x.c.has x.c.is_ = d := ⟨_, rfl⟩
  rw [hd] at hS ⊢
  have HS := Lib.hid hS
  have HX := Lib.hid ((Ext.refl w).alloc x.cells 134)
  clear hS hd h
  go_enter Try.func131, Try.ntmps131
  go_wp2_with fail
  refine (HS.out _ HX.out).mono ?_
  rintro e w1 ⟨rfl, hx1⟩
  have HX1 := Lib.hid (HX.out.trans hx1)
  clear hx1
  go_wp2_with fail
  go_ret
  exact ⟨rfl, HX1.out⟩
end Go.Proofs.Ytpapoalgocmlaaa
