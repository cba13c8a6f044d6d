/- What the theorem needs of the texts OvGet, MeetO, OvStepW, OvPut, OvLay, FitI, FitL, OvCom0, ScanP, ScanW, ScanR, ScanT, ScanK, ScanQ, KeysEnd, ScanX, Known08, Law8B: no condition of its own. -/
import Derived.Laws.IdiomStrings
import Derived.WalkArith
import Derived.WideKeyArgs
import Derived.ChangeOld
import Derived.Handed
import Derived.ProofKit
import Derived.OpenShut
import Derived.WalkKit
import Derived.Deep.CutBlock
import Derived.Deep.DeepCutAuto
import Derived.Shelf.SlIter.Nil
import Derived.Shelf.SortM.Plain
import Derived.Shelf.SortM.SortNone
import Derived.Ground.GgzProg
import Derived.Ground.SlgmProg
import Derived.Ground.NamesProg
import Derived.Shelf.Strings.Prefix
import Derived.Shelf.Strconv.Itoa4
import Derived.Shelf.Unicode.ValidAny
import Derived.Shelf.Small.Wraps
import Derived.RangeFuncNested
import Derived.RangeFuncBound
import Derived.RangeFuncCalls
import Derived.RangeFuncLeaves
import Derived.Shelf.Abstract
import Derived.Shelf.RegionOpen
import Derived.OwnWalkIn
import Derived.TacticsInMore
import Derived.LoopNIn
import Derived.LoopIn
import Derived.OrdersIn
import Derived.WalkMore
import Derived.Test.YtechahocffcbpaaGreatDoorPma
import Derived.Test.YtechahocffcbpaaGreatDoorPmb
import Derived.Test.YtechahocffcbpaaGreatDoorPmc
import Derived.Test.YtechahocffcbpaaGreatDoorPmd
set_option maxRecDepth 100000
set_option maxHeartbeats 4000000
namespace Go.Proofs.YtechahocffcbpaaGreatDoor
open Go.RowKit Go.Maps
set_option linter.unusedVariables false
set_option linter.unusedSimpArgs false
abbrev od0 (T : RT) : OD := ⟨T, none, Sl.none, [], [[]], []⟩
theorem OvAt.fresh {H : Nat → Prop} {w : World} {F : Nat → Prop} {O : Nat} {T : RT} (hb : Blk w O 29 #[rootV T, .map none, .slice none 0 0]) (hT : IsT w F T) (ok : OkR T) (hF : ∀ b, F b → b < w.heap.size ∧ ¬ H b ∧ b ≠ O) (hO : ¬ H O) : OvAt H w O (od0 T) :=
  ⟨hb, rfl, ⟨[], rfl, World.ownsRow_nil _ _ _ _, fun i u v hu => by simp at hu⟩, fun p hp => (by cases hp), fun u hu => (by cases hu), Chain.nil [], rfl, rfl, List.Pairwise.nil,
    hT.mono fun b hb => ⟨(hF b hb).1, ⟨fun h => by
      rcases h with h | h | h
      · exact (hF b hb).2.2 h
      · cases h
      · (cases h), (hF b hb).2.1⟩⟩, ok, ⟨by simp, by simp [Sl.row], fun b hb => (by cases hb)⟩, fun b hb => by
    rcases hb with rfl | h | h
    · exact hO
    · cases h
    · (cases h), fun h => absurd rfl h⟩
theorem begin_ov {w : World} {F H : Nat → Prop} {T : RT} (hT : IsT w F T) (ok : OkR T) (hF : ∀ b, F b → b < w.heap.size ∧ ¬ H b) (hH : ∀ b, H b → b < w.heap.size) :
    Calls Tryz.prog 15 #[treeV T] w fun e w' => ∃ O, e = .returned (.pointer (some ⟨O, 0, none⟩)) ∧ w.heap.size ≤ O ∧ OvAt H w' O (od0 T) ∧ Ext w w' := by
  obtain ⟨p, hp⟩ := rootV_ptr T
  rw [treeV, hp]
  have HT := Lib.hid hT
  have HF := Lib.hid hF
  have HH := Lib.hid hH
  have HP := Lib.hid hp
  clear hT hF hH hp
  go_enter Tryz.func15, Tryz.ntmps15
  go_wp2_with fail
  generalize hW0 : World.alloc _ _ = W0
  obtain ⟨hx0, hz0, -, hb1⟩ := two_blocks w _ _ _ _ W0 hW0
  refine bodyPost_ret (v := .pointer (some ⟨w.heap.size + 1, 0, none⟩)) (by simp [results, Tryz.results15, go_sem]) rfl ?_
  refine ⟨w.heap.size + 1, rfl, Nat.le_succ _, OvAt.fresh (by rw [HP.out]; exact hb1) (HT.out.agree (hx0.agree fun b hb => (HF.out b hb).1)) ok (fun b hb => ⟨by have := (HF.out b hb).1; omega, (HF.out b hb).2, by have := (HF.out b hb).1; omega⟩) (fun h => by have := HH.out _ h; omega), hx0⟩
theorem mark_ov {H : Nat → Prop} {w : World} {O : Nat} {d : OD} (h : OvAt H w O d) : Calls Tryz.prog 18 #[.pointer (some ⟨O, 0, none⟩)] w fun e w' => e = .returned (.int .i64 (d.us.length : Int)) ∧ Ext w w' := by
  have c2 : w.cell? ⟨O, 2, none⟩ = some (.slice d.s.a d.us.length d.s.c) := h.blk.cell 2
  clear h
  go_enter Tryz.func18, Tryz.ntmps18
  go_wp2_with fail
  go_ret
  exact ⟨rfl, Ext.refl w⟩
abbrev OD.now (d : OD) (k : ByteArray) : Option Val := nowE (entsT d.T) (optA d.C) k
theorem now_none {d : OD} {k : ByteArray} (h : getA d.C k = none) : d.now k = getE (entsT d.T) k := by
  unfold OD.now nowE
  rw [getA_opt, h]; rfl
theorem now_some {d : OD} {k : ByteArray} {s : SV} (h : getA d.C k = some s) : d.now k = s.opt := by
  unfold OD.now nowE
  rw [getA_opt, h]; rfl
theorem opt_val {w : World} {F : Nat → Prop} {s : SV} (h : SVok w F s) : s.opt.getD zeroV = s.v ∧ s.opt.isSome = s.has := by
  unfold SV.opt
  cases hh : s.has with
  | true => simp
  | false => simp [h.2 hh]
theorem get_ov {H : Nat → Prop} {w : World} {O : Nat} {d : OD} (h : OvAt H w O d) (hl : (entsT d.T).length ≤ 1000000) {k : ByteArray} (hk : k.size ≤ maxLen) :
    Calls Tryz.prog 11 #[.pointer (some ⟨O, 0, none⟩), .string k] w (GetPost (d.now k) w) := by
  have lO := h.blk.lt
  have c1 : w.cell? ⟨O, 1, none⟩ = some (.map d.mb) := h.blk.cell 1
  have c0 : w.cell? ⟨O, 0, none⟩ = some (rootV d.T) := h.blk.cell 0
  have hlk : ∀ cs t, (Instr.lookup 26 (.map d.mb) (.string k) true).run Tryz.prog (w.alloc (.cells cs t)) = .ok (.tuple #[(hadA d.C k).val, .bool (getA d.C k).isSome]) (w.alloc (.cells cs t)) := fun cs t =>
    look_ov (h.map.heap fun b hb => Below.heap_alloc _ _ _ (h.map.lt hb)) hk
  cases hg : getA d.C k with
  | none =>
    rw [now_none hg]
    simp only [hg, hadA, Option.getD_none, Option.isSome_none] at hlk
    have hF : ∀ b, OvF H w O d b → b < w.heap.size := fun b hb => hb.1
    have hgt := fun W (hW : Ext w W) => treeGet_any (w := W) (fun b hb => Nat.lt_of_lt_of_le (hF b hb) hW.size) (h.tree.agree (hW.agree hF)) h.ok hl k
    generalize getE (entsT d.T) k = og at *
    obtain ⟨p, hp⟩ := rootV_ptr d.T
    rw [hp] at c0
    simp only [treeV, hp] at hgt
    have HGT := Lib.hid hgt
    clear hgt h hF hg hp
    go_enter Tryz.func11, Tryz.ntmps11
    go_wp2_with fail
    generalize hW0 : World.alloc _ _ = W0
    obtain ⟨hx0, hz0, hb0, hb1⟩ := two_blocks w _ _ _ _ W0 hW0
    have HX0 := Lib.hid hx0
    have HB0 := Lib.hid hb0
    have HZ := Lib.hid hz0
    clear hW0 hb0 hb1 hz0 hlk
    refine (HGT.out W0 hx0).mono ?_
    rintro e w1 ⟨sl, so, rfl, hx1, hrv⟩
    have hb := HB0.out.ext hx1
    obtain ⟨q0, q1, q2, q3, q4, q5⟩ := hb.c6
    have f2 := hb.frozen
    have lb := hb.lt
    have HX1 := Lib.hid hx1
    have HRV := Lib.hid hrv
    clear hb hx1 hrv hx0 HGT
    go_wp2_with fail
    refine bodyPost_ret (v := .tuple #[aggV (og.getD zeroV) sl so, .bool og.isSome]) (by simp [results, Tryz.results11, go_sem, q0, q1, q2, q3, q4, q5]) rfl ?_
    exact getPost_end (HX0.out.trans HX1.out) (b := w.heap.size) (lo := W0.heap.size) (by omega) (by rw [HZ.out]; omega) HRV.out
  | some s =>
    rw [now_some hg]
    have hs := (h.vals (k, s) (getA_some hg)).2
    have hv : s.opt.getD zeroV = s.v ∧ s.opt.isSome = s.has := opt_val hs
    simp only [hg, hadA, Option.getD_some, Option.isSome_some] at hlk
    have hcp := fun W (hW : Ext w W) => copy_any _ s.v (Nat.le_refl _) W s.sl s.so ((hs.1.agree (hW.agree fun b hb => hb.1)).mono fun b hb => Nat.lt_of_lt_of_le hb.1 hW.size)
    obtain ⟨og, hog⟩ : ∃ og, s.opt = og := ⟨_, rfl⟩
    rw [hog] at hv ⊢
    obtain ⟨has, v, sl, so⟩ := s
    obtain ⟨rfl, rfl⟩ := hv
    have HCP := Lib.hid hcp
    clear hcp h hg hs hog
    go_enter Tryz.func11, Tryz.ntmps11
    go_wp2_with fail
    generalize hW0 : World.alloc _ _ = W0
    obtain ⟨hx0, hz0, hb0, hb1⟩ := two_blocks w _ _ _ _ W0 hW0
    have HSS := Lib.hid (show ∀ W, St (fun b => b = w.heap.size) W0 W → W.cell? ⟨w.heap.size + 1, 0, none⟩ = some (.bool og.isSome) ∧ W.cell? ⟨w.heap.size + 1, 1, none⟩ = some (.int .i64 (og.getD zeroV).kind) ∧ W.cell? ⟨w.heap.size + 1, 2, none⟩ = some (.bool (og.getD zeroV).b) ∧ W.cell? ⟨w.heap.size + 1, 3, none⟩ = some (.int .i64 (og.getD zeroV).i) ∧ W.cell? ⟨w.heap.size + 1, 4, none⟩ = some (.string (og.getD zeroV).t) ∧ W.cell? ⟨w.heap.size + 1, 5, none⟩ = some (.slice sl.a (og.getD zeroV).l.length sl.c) ∧ W.cell? ⟨w.heap.size + 1, 6, none⟩ = some (.slice so.a (og.getD zeroV).ok.length so.c) from
      fun W hW => by
        have hb := hW.blk hb1 (by omega)
        exact ⟨hb.cell 0, hb.cell 1, hb.cell 2, hb.cell 3, hb.cell 4, hb.cell 5, hb.cell 6⟩)
    have HX0 := Lib.hid hx0
    have HB0 := Lib.hid hb0
    have HZ := Lib.hid hz0
    have l0 := hb0.lt
    clear hW0 hx0 hb0 hb1 hz0 hlk
    refine wp_region_held_drew (S := (fun w' => St (fun b => b = w.heap.size) W0 w')) (by kernel_rfl) (((St.refl _ W0).drew)) (fun hHeld => ?_)
    refine heldT 0 (some 21) HSS hHeld ?_
    refine heldT 1 (some 22) HSS hHeld ?_
    refine heldT 3 (some 24) HSS hHeld ?_
    refine heldT 4 (some 25) HSS hHeld ?_
    refine held_call (i := 2) (by kernel_rfl) rfl (by rfl) (fun K hK => ?_)
    go_simp
    (refine (HCP.out _ (HX0.out.drew)).mono ?_; rintro e w2 ⟨sl2, so2, rfl, hx2, hrv⟩; have hb2 := (HB0.out.ext ((Ext.refl W0).drew)).ext hx2; obtain ⟨q0, q1, q2, q3, q4, q5⟩ := hb2.c6; have f2 := hb2.frozen; have lb := hb2.lt)
    refine hK.out _ _ (hHeld.ext hx2) (fun hHeld => ?_)
    clear hK K
    try simp only [Act.put, List.setIfInBounds_toArray, List.set_cons_zero, List.set_cons_succ]
    refine held_call (i := 5) (by kernel_rfl) rfl (by rfl) (fun K hK => ?_)
    go_simp
    skip
    refine hK.out _ _ (hHeld.putV (.inr rfl) 0 _ _ _) (fun hHeld => ?_)
    clear hK K
    try simp only [Act.put, List.setIfInBounds_toArray, List.set_cons_zero, List.set_cons_succ]
    refine heldT 6 (some 5) HSS hHeld ?_
    refine wpAnyH_done (by kernel_rfl) ?_ _
    go_wp2_with fail
    refine bodyPost_ret (v := .tuple #[aggV (og.getD zeroV) sl2 so2, .bool og.isSome]) (by simp [results, Tryz.results11, go_sem, q0, q1, q2, q3, q4, q5]) rfl ?_
    exact getPost_end ((HX0.out.drew).trans hx2) (b := w.heap.size) (lo := W0.heap.size) (by omega) (by rw [HZ.out]; omega) hrv
end Go.Proofs.YtechahocffcbpaaGreatDoor
namespace Go.Proofs.YtechahocffcbpaaGreatDoor
open Go.RowKit
set_option linter.unusedVariables false
def onlyO (R : Act → World → Prop) : Exit → Act → World → Prop
  | .normal, a, w => R a w
  | _, _, _ => False
theorem onlyO_mk {R : Act → World → Prop} {a : Act} {w : World} (h : R a w) : onlyO R .normal a w := h
def putO (tm : Array Value) : List (Nat × Value) → Array Value
  | [] => tm
  | (i, v) :: l => putO (tm.setIfInBounds i v) l
theorem wp_meetO {P : Program} {c : Code} {Q : Exit → Act → World → Prop} {a : Act} {w : World} {α : Type} (Rw : World → α → Prop) (ds : List Nat) (vals : α → List (Nat × Value))
    (h1 : c.wp P (onlyO fun a' w' => ∃ x, Rw w' x ∧ a'.defers = a.defers ∧ a'.tmps = putO a.tmps ((ds.map fun d => (d, a'.tmps.getD d undef)) ++ vals x)) a w)
    (h2 : ∀ (w' : World) (x : α) (vs : Nat → Value), Rw w' x → Q .normal { tmps := putO a.tmps ((ds.map fun d => (d, vs d)) ++ vals x), defers := a.defers } w') : c.wp P Q a w :=
  wp_mono h1 fun e a' w' h => by
    cases e with
    | normal =>
      obtain ⟨x, hr, hd, ht⟩ := h
      have := h2 w' x (fun d => a'.tmps.getD d undef) hr
      rw [← ht, ← hd] at this
      exact this
    | _ => exact h.elim
end Go.Proofs.YtechahocffcbpaaGreatDoor
namespace Go.Proofs.YtechahocffcbpaaGreatDoor
open Go.RowKit Go.Maps
set_option linter.unusedVariables false
set_option linter.unusedSimpArgs false
theorem two_drew (w : World) (t0 t1 : TypeId) (c0 c1 : Array Value) : ∀ W, ((w.alloc (.cells c0 t0)).alloc (.cells c1 t1)).drew = W →
    Ext w W ∧ W.heap.size = w.heap.size + 2 ∧ Blk W w.heap.size t0 c0 ∧ Blk W (w.heap.size + 1) t1 c1 := by
  rintro W rfl
  obtain ⟨hx, hz, h0, h1⟩ := two_blocks w t0 t1 c0 c1 _ rfl
  exact ⟨hx.drew, hz, h0, h1⟩
theorem step_made {w : World} {O : Nat} {t t0 t1 t2 : TypeId} {cs c0 c1 c2 : Array Value} (hb : Blk w O t cs) : ∀ W, ((((w.setCell ⟨O, 1, none⟩ (.map (some (w.heap.size + 1 + 1 + 1)))).alloc (.cells c0 t0)).alloc (.cells c1 t1)).alloc (.cells c2 t2)).alloc (.map #[] 0) = W →
    Sb (fun c => c = O) w W ∧ w.heap.size + 3 ≤ W.heap.size ∧ Blk W O t (cs.setIfInBounds 1 (.map (some (w.heap.size + 1 + 1 + 1)))) ∧ Blk W w.heap.size t0 c0 ∧ Blk W (w.heap.size + 1) t1 c1 ∧ Blk W (w.heap.size + 1 + 1) t2 c2 ∧ W.ownsMap Tryz.prog 9 heldR (w.heap.size + 1 + 1 + 1) 0 (mapA SV.val []) := by
  rintro W rfl
  have hz : (w.setCell ⟨O, 1, none⟩ (.map (some (w.heap.size + 1 + 1 + 1)))).heap.size = w.heap.size := World.size_setCell _ _ _
  have hs0 : Sb (fun c => c = O) w (w.setCell ⟨O, 1, none⟩ (.map (some (w.heap.size + 1 + 1 + 1)))) := (Sb.refl (fun c => c = O) w).set (p := ⟨O, 1, none⟩) (.inr rfl) _
  have hb0 := hb.set_ 1 (.map (some (w.heap.size + 1 + 1 + 1)))
  generalize w.setCell ⟨O, 1, none⟩ (.map (some (w.heap.size + 1 + 1 + 1))) = W0 at *
  obtain ⟨hx, hz3, h0, h1, h2⟩ := three_blocks W0 t0 t1 t2 c0 c1 c2 _ rfl
  rw [hz] at h0 h1 h2 hz3
  generalize ((W0.alloc (.cells c0 t0)).alloc (.cells c1 t1)).alloc (.cells c2 t2) = W3 at *
  have hm := World.ownsMap_made W3 Tryz.prog 9 heldR
  rw [show W3.heap.size = w.heap.size + 1 + 1 + 1 by omega] at hm
  exact ⟨(hs0.trans (hx.sb _)).trans (Sb.made (World.grownBy_alloc _ _ _)), by simp; omega, (hb0.ext hx).alloc _, h0.alloc _, h1.alloc _, h2.alloc _, hm⟩
theorem step_any {H : Nat → Prop} {w : World} {O : Nat} {d : OD} (h : OvAt H w O d) (hH : ∀ b, H b → b < w.heap.size) (hn : d.us.length ≤ 1000000) {k : ByteArray} (hk : k.size ≤ maxLen) {sv : SV} (hsv : SVok w (OvF H w O d) sv) :
    Calls Tryz.prog 35 #[.pointer (some ⟨O, 0, none⟩), .string k, sv.val] w (StepPost H O d k sv w) := by
  obtain ⟨i0, hi, hz0, hz1, hz2⟩ := info_parts Tryz.infoFn
  have hmm := @run_makeMap Tryz.prog
  have qmn : ∀ (w : World) (r : Option Nat), (binOp .eql 26 (.map r) (.map none)).run Tryz.prog w = .ok (.bool r.isNone) w := fun w r => run_eql_map_nil w _ _ _ r Tryz.underlying26
  have c1 : w.cell? ⟨O, 1, none⟩ = some (.map d.mb) := h.blk.cell 1
  have f1 := h.blk.frozen 1
  have lO := h.blk.lt
  have hrl : ∀ i, d.s.row = some i → i < w.heap.size := fun i hi => h.row_lt hi
  have HAT := Lib.hid h
  have HHH := Lib.hid hH
  have HSV := Lib.hid hsv
  have HRL := Lib.hid hrl
  clear h hH hsv hrl
  obtain ⟨has, v, sl, so⟩ := sv
  show Calls _ _ #[_, _, .agg #[.bool has, .int .i64 v.kind, .bool v.b, .int .i64 v.i, .string v.t, .slice sl.a v.l.length sl.c, .slice so.a v.ok.length so.c]] _ _
  have l1 : O < w.heap.size + 1 := by omega
  have l2 : O < w.heap.size + 1 + 1 := by omega
  go_enter Tryz.func35, Tryz.ntmps35
  go_upto_if 12 with fail
  go_cut [] (fun wc => ∃ b, StepMid H w O d k ⟨has, v, sl, so⟩ b wc)
  case first =>
    obtain ⟨mb, hmb⟩ : ∃ mb, d.mb = mb := ⟨_, rfl⟩
    rw [hmb] at c1 ⊢
    have HMB := Lib.hid hmb
    clear hmb
    rcases mb with _ | b
    · go_wp2_with fail
      generalize hW0 : World.alloc _ _ = W0
      obtain ⟨hs0, hz0, hbO, hb0, hb1, hb2, hown⟩ := step_made HAT.out.blk W0 hW0
      clear hW0
      go_meet
      case rel =>
        have hat := HAT.out.made HMB.out (b := w.heap.size + 1 + 1 + 1) (by omega) HHH.out hs0 hbO hown
        refine ⟨_, hat, hs0.mono fun i _ h => .inl h, .inr (by omega), hz0, hb0, hb1, hb2, ?_⟩
        refine (HSV.out.agree (fun i hi => hs0.block i hi.1 fun e => hi.2.1 (.inl e))).mono fun i hi => ⟨Nat.lt_of_lt_of_le hi.1 hs0.size, fun e => ?_, hi.2.2⟩
        rcases e with e | e | e
        · exact hi.2.1 (.inl e)
        · have e : some (w.heap.size + 1 + 1 + 1) = some i := e
          injection e with e
          have := hi.1; omega
        · exact hi.2.1 (.inr (.inr e))
    · go_wp2_with fail
      generalize hW0 : World.alloc _ _ = W0
      obtain ⟨hx0, hz0', hb0, hb1, hb2⟩ := three_blocks w _ _ _ _ _ _ W0 hW0
      clear hW0
      go_meet
      case rel =>
        have hat := HAT.out.ext hx0
        have hd : d = { d with mb := some b } := by rw [← HMB.out]
        refine ⟨b, by rw [← hd]; exact hat, hx0.sb _, .inl HMB.out, by omega, hb0, hb1, hb2, ?_⟩
        rw [← hd]
        exact (HSV.out.agree (hx0.agree fun b hb => hb.1)).mono fun i hi => ⟨Nat.lt_of_lt_of_le hi.1 hx0.size, hi.2⟩
  case rest =>
    obtain ⟨b, hM⟩ := hcut
    have hlk : ∀ W, Ext wc W → (Instr.lookup 26 (.map (some b)) (.string k) true).run Tryz.prog W = .ok (.tuple #[(hadA d.C k).val, .bool (getA d.C k).isSome]) W := fun W hW =>
      look_ov (hM.at_.ext hW).map hk
    obtain ⟨o, ho⟩ : ∃ o, hadA d.C k = o := ⟨_, rfl⟩
    obtain ⟨g, hg⟩ : ∃ g, (getA d.C k).isSome = g := ⟨_, rfl⟩
    rw [ho, hg] at hlk
    obtain ⟨oh, ov, osl, oso⟩ := o
    have HO := Lib.hid ho
    have HG := Lib.hid hg
    have lO3 : O < wc.heap.size := hM.at_.blk.lt
    have hbig := hM.big
    have HM := Lib.hid hM
    have HSS := Lib.hid (show ∀ W, Ext wc W → W.cell? ⟨w.heap.size, 0, none⟩ = some (.pointer (some ⟨O, 0, none⟩)) ∧ W.cell? ⟨O, 1, none⟩ = some (.map (some b)) ∧ W.cell? ⟨w.heap.size + 1, 0, none⟩ = some (.string k) ∧
        (Instr.lookup 26 (.map (some b)) (.string k) true).run Tryz.prog W = .ok (.tuple #[.agg #[.bool oh, .int .i64 ov.kind, .bool ov.b, .int .i64 ov.i, .string ov.t, .slice osl.a ov.l.length osl.c, .slice oso.a ov.ok.length oso.c], .bool g]) W from
      fun W hW => ⟨(hM.bo.ext hW).cell 0, ((hM.at_.ext hW).blk).cell 1, (hM.bk.ext hW).cell 0, hlk W hW⟩)
    clear hM hlk ho hg c1 f1 l1 l2
    go_wp2_with fail
    refine wp_meetO (α := Nat × Nat) (fun w' x => Ext wc w' ∧ (wc.heap.size ≤ x.1 ∧ x.1 < w'.heap.size) ∧ (wc.heap.size ≤ x.2 ∧ x.2 < w'.heap.size) ∧ Blk w' x.1 85 #[.bool oh, .int .i64 ov.kind, .bool ov.b, .int .i64 ov.i, .string ov.t, .slice osl.a ov.l.length osl.c, .slice oso.a ov.ok.length oso.c] ∧ Blk w' x.2 4 #[.bool g]) [17, 18, 19, 20, 21, 22, 23, 24, 25] (fun x => [(6, .pointer (some ⟨x.1, 0, none⟩)), (7, .pointer (some ⟨x.2, 0, none⟩))]) ?h1 ?h2
    case h1 =>
      refine wp_region_held_drew (S := (fun w' => Ext wc w')) (by kernel_rfl) (((Ext.refl wc).drew)) (fun hHeld => ?_)
      refine heldT 0 (some 18) HSS hHeld ?_
      refine heldT 1 (some 19) HSS hHeld ?_
      refine heldT 2 (some 20) HSS hHeld ?_
      refine heldT 3 (some 21) HSS hHeld ?_
      refine heldT 4 (some 22) HSS hHeld ?_
      refine heldT 5 (some 23) HSS hHeld ?_
      refine heldT 6 (some 17) HSS hHeld ?_
      refine heldT 7 (some 24) HSS hHeld ?_
      refine heldT 8 (some 25) HSS hHeld ?_
      refine held_two (i := 9) (j := 10) (by kernel_rfl) rfl rfl (by rfl) (by rfl) (fun K hK => ?_) (fun K hK => ?_)
      · go_simp
        skip
        refine hK.out _ _ ((by first|exact (((Ext.refl _).drew).alloc _ _).alloc _ _|exact ((Ext.refl _).drew).alloc _ _)) (fun hHeld => ?_)
        clear hK K
        try simp only [Act.put, List.setIfInBounds_toArray, List.set_cons_zero, List.set_cons_succ]
        refine held_call (i := 10) (by kernel_rfl) rfl (by rfl) (fun K hK => ?_)
        go_simp
        skip
        refine hK.out _ _ ((by first|exact (((Ext.refl _).drew).alloc _ _).alloc _ _|exact ((Ext.refl _).drew).alloc _ _)) (fun hHeld => ?_)
        clear hK K
        try simp only [Act.put, List.setIfInBounds_toArray, List.set_cons_zero, List.set_cons_succ]
        refine held_call (i := 11) (by kernel_rfl) rfl (by rfl) (fun K hK => ?_)
        go_simp
        skip
        refine hK.out _ _ ((by first|exact (((Ext.refl _).drew).alloc _ _).alloc _ _|exact (((Ext.refl _).alloc _ _).alloc _ _).drew)) (fun hHeld => ?_)
        clear hK K
        try simp only [Act.put, List.setIfInBounds_toArray, List.set_cons_zero, List.set_cons_succ]
        refine held_call (i := 12) (by kernel_rfl) rfl (by rfl) (fun K hK => ?_)
        go_simp
        skip
        refine hK.out _ _ ((by first|exact (((Ext.refl _).drew).alloc _ _).alloc _ _|exact (((Ext.refl _).alloc _ _).alloc _ _).drew)) (fun hHeld => ?_)
        clear hK K
        try simp only [Act.put, List.setIfInBounds_toArray, List.set_cons_zero, List.set_cons_succ]
        refine wpAnyH_done (by kernel_rfl) ?_ _
        generalize hWm : World.drew _ = wm
        obtain ⟨hxm, hzm, hb1, hb2⟩ := two_drew wc _ _ _ _ wm hWm
        refine onlyO_mk ⟨(wc.heap.size, wc.heap.size + 1), ⟨hxm, ⟨Nat.le_refl _, by show wc.heap.size < _; omega⟩, ⟨Nat.le_succ _, by show wc.heap.size + 1 < _; omega⟩, hb1, hb2⟩, by kernel_rfl, ?_⟩
        simp only [putO, List.map_cons, List.map_nil, List.cons_append, List.nil_append, List.setIfInBounds_toArray, List.set_cons_zero, List.set_cons_succ]
        kernel_rfl
      · go_simp
        skip
        refine hK.out _ _ ((by first|exact (((Ext.refl _).drew).alloc _ _).alloc _ _|exact ((Ext.refl _).drew).alloc _ _)) (fun hHeld => ?_)
        clear hK K
        try simp only [Act.put, List.setIfInBounds_toArray, List.set_cons_zero, List.set_cons_succ]
        refine held_call (i := 9) (by kernel_rfl) rfl (by rfl) (fun K hK => ?_)
        go_simp
        skip
        refine hK.out _ _ ((by first|exact (((Ext.refl _).drew).alloc _ _).alloc _ _|exact ((Ext.refl _).drew).alloc _ _)) (fun hHeld => ?_)
        clear hK K
        try simp only [Act.put, List.setIfInBounds_toArray, List.set_cons_zero, List.set_cons_succ]
        refine held_call (i := 11) (by kernel_rfl) rfl (by rfl) (fun K hK => ?_)
        go_simp
        skip
        refine hK.out _ _ ((by first|exact (((Ext.refl _).drew).alloc _ _).alloc _ _|exact (((Ext.refl _).alloc _ _).alloc _ _).drew)) (fun hHeld => ?_)
        clear hK K
        try simp only [Act.put, List.setIfInBounds_toArray, List.set_cons_zero, List.set_cons_succ]
        refine held_call (i := 12) (by kernel_rfl) rfl (by rfl) (fun K hK => ?_)
        go_simp
        skip
        refine hK.out _ _ ((by first|exact (((Ext.refl _).drew).alloc _ _).alloc _ _|exact (((Ext.refl _).alloc _ _).alloc _ _).drew)) (fun hHeld => ?_)
        clear hK K
        try simp only [Act.put, List.setIfInBounds_toArray, List.set_cons_zero, List.set_cons_succ]
        refine wpAnyH_done (by kernel_rfl) ?_ _
        generalize hWm : World.drew _ = wm
        obtain ⟨hxm, hzm, hb1, hb2⟩ := two_drew wc _ _ _ _ wm hWm
        refine onlyO_mk ⟨(wc.heap.size + 1, wc.heap.size), ⟨hxm, ⟨Nat.le_succ _, by show wc.heap.size + 1 < _; omega⟩, ⟨Nat.le_refl _, by show wc.heap.size < _; omega⟩, hb2, hb1⟩, by kernel_rfl, ?_⟩
        simp only [putO, List.map_cons, List.map_nil, List.cons_append, List.nil_append, List.setIfInBounds_toArray, List.set_cons_zero, List.set_cons_succ]
        kernel_rfl
    rintro wm ⟨bd, bw⟩ uu ⟨hxm, hd1, hw1, hbd, hbw⟩
    simp only [putO, List.map_cons, List.map_nil, List.cons_append, List.nil_append, List.setIfInBounds_toArray, List.set_cons_zero, List.set_cons_succ]
    dsimp only at hd1 hw1 hbd hbw
    have hbm := HM.out.at_.blk.ext hxm
    have c2 : wm.cell? ⟨O, 2, none⟩ = some (.slice d.s.a d.us.length d.s.c) := hbm.cell 2
    have f2 := hbm.frozen 2
    have lOm := hbm.lt
    have hob := HM.out.bo.ext hxm
    have c3 : wm.cell? ⟨w.heap.size, 0, none⟩ = some (.pointer (some ⟨O, 0, none⟩)) := hob.cell 0
    have l3 := hob.lt
    obtain ⟨xs, hl, hown, hun⟩ := HM.out.at_.row
    have HL := Lib.hid (show xs.length = d.us.length from hl)
    have HUN := Lib.hid hun
    have HOX := Lib.hid (show ∀ W, Ext wm W → W.ownsRow 0 1 1 (.slice d.s.a d.us.length d.s.c) d.us.length xs from fun W hW => own_agree hown ((hxm.trans hW).agree fun b (hb : b < wc.heap.size) => hb) fun b hb => (own_row hown hb).2)
    have hrO : d.s.row ≠ some O := HM.out.at_.ne.2.1
    have hr3 : d.s.row ≠ some w.heap.size := fun e => by have := HRL.out _ e; omega
    have hone : ∀ u ∈ [undoC bw bd w.heap.size (w.heap.size + 1)], u.oneCell' = true := by simp [Value.oneCell']
    have h63 : d.us.length + 1 ≤ maxLen := by unfold maxLen; omega
    have hby : (d.us.length + 1) * 8 ≤ 140737488355328 := by omega
    have HXM := Lib.hid hxm
    have HBD := Lib.hid hbd
    have HBW := Lib.hid hbw
    have HW1 := Lib.hid hw1
    have HD1 := Lib.hid hd1
    clear hbd hbw hw1 hd1 hbm hob hl hun hown hxm HSS
    go_wp2_with fail
    refine wp_meetO (α := Sl × World × World) (fun w' x => Ext wm x.2.1 ∧ x.2.2.ownsRow 0 1 1 (.slice x.1.a (d.us.length + 1) x.1.c) (d.us.length + 1) (xs ++ [undoC bw bd w.heap.size (w.heap.size + 1)]) ∧ Wr x.2.1 x.2.2 d.s.row ∧ (x.1.a = d.s.a ∨ x.1.a = some ⟨x.2.1.heap.size, 0, none⟩ ∧ Wr x.2.1 x.2.2 none) ∧ w' = x.2.2.setCell ⟨O, 2, none⟩ (.slice x.1.a (d.us.length + 1) x.1.c)) [26, 27, 28, 29, 30, 31, 32, 33, 34, 35] (fun _ => []) ?g1 ?g2
    case g1 =>
      go_region_law (refine step_append_x _ rfl (.tmp 30) (.tmp 32) 27 rfl 0 1 i0 _ 1 8 Tryz.underlying27 hi hz0 hz1 hz2 rfl (by decide) d.s d.us.length xs (by rfl) (HOX.out _ (by first | exact ((Ext.refl wm).drew).alloc _ _ | exact ((Ext.refl wm).alloc _ _).drew)) (fun b => b = wm.heap.size) ⟨some ⟨wm.heap.size, 0, none⟩, 1⟩ 1 [undoC bw bd w.heap.size (w.heap.size + 1)] (by rfl) (Rd.block (Blk.new _ _ _) (by decide) rfl) hone h63 hby (Nat.zero_le _) ?_; intro s5 w5 hown5 hwr5 hs5; have hq5 := hwr5.cell0 (w := wm) (o := 2) (by first | exact ((Ext.refl wm).drew).alloc _ _ | exact ((Ext.refl wm).alloc _ _).drew) hrO lOm; have cq5 := hq5.1.trans c2; have lq5 := hq5.2; have hp5 := hwr5.cell0 (w := wm) (o := 0) (by first | exact ((Ext.refl wm).drew).alloc _ _ | exact ((Ext.refl wm).alloc _ _).drew) hr3 l3; have cp5 := hp5.1.trans c3; have f5 : w5.frozen? ⟨O, 2, none⟩ = false := (hwr5.fz _ _).trans (((by first | exact ((Ext.refl wm).drew).alloc _ _ | exact ((Ext.refl wm).alloc _ _).drew : Ext wm _).frozen (o := 2) lOm).trans f2); have HO5 := Lib.hid hown5; have HW5 := Lib.hid hwr5; have HS5 := Lib.hid hs5; clear hown5 hwr5 hs5 hq5 hp5)
      all_goals
        refine onlyO_mk ⟨(s5, _, w5), ⟨by first | exact ((Ext.refl wm).drew).alloc _ _ | exact ((Ext.refl wm).alloc _ _).drew, HO5.out, HW5.out, HS5.out, rfl⟩, by kernel_rfl, ?_⟩
        simp only [putO, List.map_cons, List.map_nil, List.append_nil, List.cons_append, List.nil_append, List.setIfInBounds_toArray, List.set_cons_zero, List.set_cons_succ]
        kernel_rfl
    rintro w6 ⟨s5, W5, w5⟩ vv ⟨hx5, ho5, hw5, hs5, rfl⟩
    simp only [putO, List.map_cons, List.map_nil, List.append_nil, List.cons_append, List.nil_append, List.setIfInBounds_toArray, List.set_cons_zero, List.set_cons_succ]
    dsimp only at hx5 ho5 hw5 hs5
    have hcm : Ext wc W5 := HXM.out.trans hx5
    have hsb6 : Sb (fun c => c = O ∨ d.s.row = some c) wc (w5.setCell ⟨O, 2, none⟩ (.slice s5.a (d.us.length + 1) s5.c)) :=
      ((hcm.sb _).trans ⟨hw5.grown.os, hw5.grown.tape, hw5.grown.output, hw5.grown.size, fun i hi hn => hw5.grown.block i hi fun e => hn (.inr e.symm)⟩).trans ((Sb.refl _ w5).set (p := ⟨O, 2, none⟩) (.inr (.inl rfl)) _)
    have hbm5 : Blk w5 O 29 #[rootV d.T, .map (some b), .slice d.s.a d.us.length d.s.c] := (hw5.agree (F := fun c => c = O) (fun i hi => by rw [hi]; exact Nat.lt_of_lt_of_le lO3 hcm.size) (fun i hi e => hrO (by rw [hi, e])) O rfl).trans (HM.out.at_.blk.ext hcm)
    have hb6 := hbm5.set_ 2 (.slice s5.a (d.us.length + 1) s5.c)
    have hnO : ¬ O = b := fun e => HM.out.at_.ne.1 (by rw [e])
    have n0 := OvMap.ne HM.out.at_.map HM.out.bo
    have n1 := OvMap.ne HM.out.at_.map HM.out.bk
    have n2 := OvMap.ne HM.out.at_.map HM.out.bs
    have k0 := hsb6.blk HM.out.bo (fun e => by
      rcases e with e | e
      · omega
      · have := HRL.out _ e; omega)
    have k1 := hsb6.blk HM.out.bk (fun e => by
      rcases e with e | e
      · omega
      · have := HRL.out _ e; omega)
    have k2 := hsb6.blk HM.out.bs (fun e => by
      rcases e with e | e
      · omega
      · have := HRL.out _ e; omega)
    have hmap6 : OvMap (w5.setCell ⟨O, 2, none⟩ (.slice s5.a (d.us.length + 1) s5.c)) (some b) d.C := HM.out.at_.map.heap fun i hi => by
      injection hi with hi
      subst hi
      exact hsb6.block b (HM.out.at_.map.lt rfl) fun e => by
        rcases e with e | e
        · exact hnO e.symm
        · exact HM.out.at_.ne.2.2 b rfl e
    have HX5 := Lib.hid hx5
    have HO5 := Lib.hid ho5
    have HW5 := Lib.hid hw5
    have HS5 := Lib.hid hs5
    obtain ⟨W6, hW6⟩ : ∃ W6, w5.setCell ⟨O, 2, none⟩ (.slice s5.a (d.us.length + 1) s5.c) = W6 := ⟨_, rfl⟩
    rw [hW6] at hb6 k0 k1 k2 hmap6 ⊢
    have HW6 := Lib.hid hW6
    have HMAP := Lib.hid hmap6
    have HSS := Lib.hid (show ∀ W, Sb (fun c => c = b) W6 W → W.cell? ⟨w.heap.size, 0, none⟩ = some (.pointer (some ⟨O, 0, none⟩)) ∧ W.cell? ⟨O, 1, none⟩ = some (.map (some b)) ∧ W.cell? ⟨w.heap.size + 1, 0, none⟩ = some (.string k) ∧ W.cell? ⟨w.heap.size + 1 + 1, 0, none⟩ = some (.bool has) ∧ W.cell? ⟨w.heap.size + 1 + 1, 1, none⟩ = some (.int .i64 v.kind) ∧ W.cell? ⟨w.heap.size + 1 + 1, 2, none⟩ = some (.bool v.b) ∧ W.cell? ⟨w.heap.size + 1 + 1, 3, none⟩ = some (.int .i64 v.i) ∧ W.cell? ⟨w.heap.size + 1 + 1, 4, none⟩ = some (.string v.t) ∧ W.cell? ⟨w.heap.size + 1 + 1, 5, none⟩ = some (.slice sl.a v.l.length sl.c) ∧ W.cell? ⟨w.heap.size + 1 + 1, 6, none⟩ = some (.slice so.a v.ok.length so.c) from
      fun W hW => ⟨(hW.blk k0 n0).cell 0, (hW.blk hb6 hnO).cell 1, (hW.blk k1 n1).cell 0, (hW.blk k2 n2).cell 0, (hW.blk k2 n2).cell 1, (hW.blk k2 n2).cell 2, (hW.blk k2 n2).cell 3, (hW.blk k2 n2).cell 4, (hW.blk k2 n2).cell 5, (hW.blk k2 n2).cell 6⟩)
    have hCs : d.C.length < maxLen := by have := HAT.out.few; unfold maxLen; omega
    clear hcm hsb6 hbm5 hb6 n0 n1 n2 k0 k1 k2 hmap6 hx5 ho5 hw5 hs5 hW6 c2 f2 lOm c3 l3 hone h63 hby
    go_wp2_with fail
    refine wp_region_held_drew (S := (fun w' => Sb (fun c => c = b) W6 w')) (by kernel_rfl) (((Sb.refl _ W6).drew)) (fun hHeld => ?_)
    refine heldT 0 (some 36) HSS hHeld ?_
    refine heldT 1 (some 37) HSS hHeld ?_
    refine heldT 2 (some 38) HSS hHeld ?_
    refine heldT 3 (some 39) HSS hHeld ?_
    refine heldT 4 (some 40) HSS hHeld ?_
    refine heldT 5 (some 41) HSS hHeld ?_
    refine held_call (i := 6) (by kernel_rfl) rfl (by rfl) (fun K hK => ?_)
    skip
    (refine oper_putA (b := b) (C := d.C) (k := k) (s := ⟨has, v, sl, so⟩) rfl rfl rfl rfl (HMAP.out.heap fun _ _ => rfl) hk hCs HAT.out.sorted ?_; intro w7 hown7 hsb7)
    refine hK.out _ _ (hHeld.trans hsb7) (fun hHeld => ?_)
    clear hK K
    try simp only [Act.put, List.setIfInBounds_toArray, List.set_cons_zero, List.set_cons_succ]
    refine wpAnyH_done (by kernel_rfl) ?_ _
    have h7 : Sb (fun c => c = b) (w5.setCell ⟨O, 2, none⟩ (.slice s5.a (d.us.length + 1) s5.c)) w7 := by rw [HW6.out]; exact hHeld
    have hend := step_end HM.out lO HRL.out HHH.out hk HXM.out HW1.out HD1.out (by rw [HO.out]; exact HBD.out) (by rw [HG.out]; exact HBW.out) HX5.out HL.out HUN.out HO5.out HW5.out HS5.out hown7 h7
    go_end0
    exact ⟨⟨_, rfl⟩, _, _, hend⟩
abbrev Nw (w w' : World) : Prop := Sb (fun _ => False) w w'
theorem Nw.any {w w' : World} (h : Nw w w') (H : Nat → Prop) : Sb H w w' := h.mono fun _ _ e => e.elim
theorem Nw.blk {w w' : World} (h : Nw w w') {g : Nat} {t : TypeId} {cs : Array Value} (hb : Blk w g t cs) : Blk w' g t cs := Sb.blk h hb fun e => e
theorem Nw.agree {w w' : World} (h : Nw w w') {F : Nat → Prop} (hF : ∀ b, F b → b < w.heap.size) : Agree F w w' := fun b hb => h.block b (hF b hb) fun e => e
theorem Nw.of {w w' : World} (h : Ext w w') : Nw w w' := h.sb _
section
variable {H : Nat → Prop} {w w' : World} {O : Nat} {d d' : OD}
theorem OvAt.nw (h : OvAt H w O d) (k : Nw w w') : OvAt H w' O d := h.sb k fun _ hb => hb.elim
theorem OvTo.after {w0 : World} (h : OvTo H w O d d' w') (k : Nw w0 w) : OvTo H w0 O d d' w' :=
  ⟨h.at_, (k.any _).trans h.sb, fun b hb => (h.new b hb).imp id fun hh => Nat.le_trans k.size hh⟩
theorem OvTo.then (h : OvTo H w O d d' w') {w2 : World} (k : Nw w' w2) : OvTo H w O d d' w2 := ⟨h.at_.nw k, h.sb.trans (k.any _), h.new⟩
def OD.step (d : OD) (k : ByteArray) (sv : SV) (mb : Option Nat) (s : Sl) : OD := ⟨d.T, mb, s, d.us ++ [⟨k, getA d.C k⟩], d.Hs ++ [putA d.C k sv], putA d.C k sv⟩
end
def DelPostO (H : Nat → Prop) (O : Nat) (d : OD) (k : ByteArray) (w : World) (e : Ending) (w' : World) : Prop :=
  e = .returned (.bool (d.now k).isSome) ∧ (((d.now k).isSome = false ∧ Nw w w') ∨ ((d.now k).isSome = true ∧ ∃ mb s, OvTo H w O d (d.step k zeroSV mb s) w'))
theorem delete_ov {H : Nat → Prop} {w : World} {O : Nat} {d : OD} (h : OvAt H w O d) (hH : ∀ b, H b → b < w.heap.size) (hn : d.us.length ≤ 1000000) (hl : (entsT d.T).length ≤ 1000000) {k : ByteArray} (hk : k.size ≤ maxLen) :
    Calls Tryz.prog 21 #[.pointer (some ⟨O, 0, none⟩), .string k] w (DelPostO H O d k w) := by
  have hg := get_ov h hl hk
  have hst := fun W (hW : Ext w W) => step_any (h.ext hW) (fun b hb => Nat.lt_of_lt_of_le (hH b hb) hW.size) hn hk (sv := zeroSV) ⟨rv_zeroO _ _, fun _ => rfl⟩
  unfold DelPostO
  generalize d.now k = og at *
  have HST := Lib.hid hst
  have HG := Lib.hid hg
  clear h hH hst hg
  go_enter Tryz.func21, Tryz.ntmps21
  go_wp2_with fail
  refine HG.out.mono ?_
  rintro e w1 ⟨sl, so, rfl, hx1, -⟩
  have HX1 := Lib.hid hx1
  clear hx1
  cases og with
  | none =>
    go_wp2_with fail
    go_ret
    exact ⟨rfl, .inl ⟨rfl, Nw.of (HX1.out.alloc _ _)⟩⟩
  | some v =>
    go_wp2_with fail
    have hx2 := HX1.out.alloc (w := w1) #[.int .i64 v.kind, .bool v.b, .int .i64 v.i, .string v.t, .slice sl.a v.l.length sl.c, .slice so.a v.ok.length so.c] 34
    refine (HST.out _ hx2).mono ?_
    rintro e w3 ⟨⟨r, rfl⟩, mb, s, hto⟩
    have HTO := Lib.hid (hto.after (Nw.of hx2))
    clear hto hx2
    go_wp2_with fail
    go_ret
    exact ⟨rfl, .inr ⟨rfl, mb, s, HTO.out⟩⟩
def PutPostO (H : Nat → Prop) (O : Nat) (d : OD) (k : ByteArray) (v : Val) (w : World) (e : Ending) (w' : World) : Prop :=
  e = .returned (.int .i64 0) ∧ ∃ sl so mb s, OvTo H w O d (d.step k ⟨true, v, sl, so⟩ mb s) w'
theorem put_ov {H : Nat → Prop} {w : World} {O : Nat} {d : OD} (h : OvAt H w O d) (hH : ∀ b, H b → b < w.heap.size) (hn : d.us.length ≤ 1000000) {k : ByteArray} (hk : k.size ≤ maxLen) {v : Val} {sl so : Sl} (hv : RV w (Lt w.heap.size) v sl so)
    (hmay : ∀ W, Nw w W → Calls Tryz.prog 33 #[.string k] W fun e w' => e = .returned (.int .i64 0) ∧ Nw W w')
    (hfit : ∀ W, Nw w W → Calls Tryz.prog 34 #[aggV v sl so] W fun e w' => e = .returned (.int .i64 0) ∧ Nw W w') :
    Calls Tryz.prog 10 #[.pointer (some ⟨O, 0, none⟩), .string k, aggV v sl so] w (PutPostO H O d k v w) := by
  have hst := fun W (hW : Nw w W) sv hsv => step_any (h.nw hW) (fun b hb => Nat.lt_of_lt_of_le (hH b hb) hW.size) hn hk (sv := sv) hsv
  have hcp := fun W (hW : Nw w W) => copy_any _ v (Nat.le_refl _) W sl so ((hv.agree (hW.agree fun b hb => hb)).mono fun b hb => Nat.lt_of_lt_of_le hb hW.size)
  have hown : ∀ b, OvB O d b → b < w.heap.size := fun b hb => h.own_lt hb
  have HM := Lib.hid hmay
  have HF := Lib.hid hfit
  have HST := Lib.hid hst
  have HCP := Lib.hid hcp
  have HOWN := Lib.hid hown
  have HHH := Lib.hid hH
  clear hmay hfit h hv hst hcp hown hH
  go_enter Tryz.func10, Tryz.ntmps10
  go_wp2_with fail
  have hx0 : Ext w (w.alloc (.cells #[.int .i64 v.kind, .bool v.b, .int .i64 v.i, .string v.t, .slice sl.a v.l.length sl.c, .slice so.a v.ok.length so.c] 34)) := (Ext.refl w).alloc _ _
  have hb0 := Blk.new w 34 #[.int .i64 v.kind, .bool v.b, .int .i64 v.i, .string v.t, .slice sl.a v.l.length sl.c, .slice so.a v.ok.length so.c]
  refine (HM.out _ (Nw.of hx0)).mono ?_
  rintro e w1 ⟨rfl, hx1⟩
  have hb1 := hx1.blk hb0
  obtain ⟨q0, q1, q2, q3, q4, q5⟩ := hb1.c6
  have hx01 := (Nw.of hx0).trans hx1
  have HX1 := Lib.hid hx01
  have HB1 := Lib.hid hb1
  clear hx0 hx1 hx01 hb0 hb1 HM
  go_wp2_with fail
  refine (HF.out _ HX1.out).mono ?_
  rintro e w2 ⟨rfl, hx2⟩
  have hb2 := hx2.blk HB1.out
  have hx02 := HX1.out.trans hx2
  have HX2 := Lib.hid hx02
  clear hx2 q0 q1 q2 q3 q4 q5 HB1 HF
  obtain ⟨q0, q1, q2, q3, q4, q5⟩ := hb2.c6
  clear hb2 hx02
  go_wp2_with fail
  refine (HCP.out _ HX2.out).mono ?_
  rintro e w3 ⟨sl', so', rfl, hx3, hrv⟩
  have hx03 := HX2.out.trans (Nw.of hx3)
  have hok : SVok w3 (OvF H w3 O d) ⟨true, v, sl', so'⟩ := ⟨hrv.mono fun i hi => ⟨hi.2, fun e => by have := HOWN.out i e; have := HX2.out.size; have := hi.1; omega, fun e => by have := HHH.out i e; have := HX2.out.size; have := hi.1; omega⟩, fun e => by cases e⟩
  have hcall := HST.out w3 hx03 _ hok
  have HX3 := Lib.hid hx03
  have HCALL := Lib.hid hcall
  clear hx3 hrv hx03 hok hcall q0 q1 q2 q3 q4 q5 HCP HST
  go_wp2_with fail
  refine HCALL.out.mono ?_
  rintro e w4 ⟨⟨r, rfl⟩, mb, s, hto⟩
  have HTO := Lib.hid (hto.after HX3.out)
  clear hto
  go_wp2_with fail
  go_ret
  exact ⟨rfl, sl', so', mb, s, HTO.out⟩
end Go.Proofs.YtechahocffcbpaaGreatDoor
namespace Go.Proofs.YtechahocffcbpaaGreatDoor
open Go.RowKit Go.Maps Go.Sort Go.Shelf
set_option linter.unusedVariables false
def Tryz.keys38_ren : Go.Shelf.Ren := ⟨fun | 7 => 38 | 10 => 64 | n => n, fun | 23 => 26 | 26 => 9 | 3 => 85 | 28 => 89 | 0 => 0 | 27 => 88 | 33 => 58 | 4 => 4 | n => n, fun | n => n⟩
theorem Tryz.keys38 : Go.Proofs.SlLaysZ.n7 Tryz.prog Tryz.keys38_ren := {
  mixed := by kernel_rfl
  f7 := ⟨Tryz.f38.name, by decide, Tryz.func38.trans (congrArg some (by kernel_rfl))⟩
  f10 := ⟨Tryz.f64.name, by decide, Tryz.func64.trans (congrArg some (by kernel_rfl))⟩
  t0 := Tryz.underlying0
  a0 := Tryz.isAgg0
  z0 := Tryz.sizeOf0
  v0 := Tryz.zeroValue0
  t4 := Tryz.underlying4
  a4 := Tryz.isAgg4
  z4 := Tryz.sizeOf4
  v4 := Tryz.zeroValue4
  t23 := Tryz.underlying26
  a23 := Tryz.isAgg26
  z23 := Tryz.sizeOf26
  v23 := Tryz.zeroValue26
  t26 := Tryz.underlying9
  a26 := Tryz.isAgg9
  z26 := Tryz.sizeOf9
  v26 := Tryz.zeroValue9
  t27 := Tryz.underlying88
  a27 := Tryz.isAgg88
  z27 := Tryz.sizeOf88
  v27 := Tryz.zeroValue88
  t28 := Tryz.underlying89
  a28 := Tryz.isAgg89
  z28 := Tryz.sizeOf89
  v28 := Tryz.zeroValue89
  t33 := Tryz.underlying58
  a33 := Tryz.isAgg58
  z33 := Tryz.sizeOf58
  v33 := Tryz.zeroValue58 }
def Tryz.sorted37_ren : Go.Shelf.Ren := ⟨fun | 6 => 37 | 8 => 63 | 9 => 49 | 11 => 95 | 13 => 84 | 12 => 83 | 23 => 133 | 24 => 134 | 14 => 124 | 15 => 125 | 16 => 126 | 17 => 127 | 18 => 128 | 19 => 129 | 20 => 130 | 21 => 131 | 22 => 132 | 25 => 173 | 26 => 174 | 27 => 175 | 28 => 176 | 29 => 177 | 30 => 178 | 31 => 192 | n => n, fun | 26 => 9 | 28 => 89 | 24 => 59 | 0 => 0 | 3 => 3 | 37 => 78 | 48 => 185 | 50 => 187 | 4 => 4 | 40 => 179 | 39 => 178 | 45 => 104 | 5 => 5 | 9 => 9 | 51 => 212 | 55 => 216 | 57 => 232 | 58 => 166 | 33 => 58 | n => n, fun | n => n⟩
theorem Tryz.sorted37 : Go.Proofs.SlLaysZ.n6 Tryz.prog Tryz.sorted37_ren := {
  mixed := by kernel_rfl
  f6 := ⟨Tryz.f37.name, by decide, Tryz.func37.trans (congrArg some (by kernel_rfl))⟩
  f8 := ⟨Tryz.f63.name, by decide, Tryz.func63.trans (congrArg some (by kernel_rfl))⟩
  f11 := ⟨Tryz.f95.name, by decide, Tryz.func95.trans (congrArg some (by kernel_rfl))⟩
  t0 := Tryz.underlying0
  a0 := Tryz.isAgg0
  z0 := Tryz.sizeOf0
  v0 := Tryz.zeroValue0
  t24 := Tryz.underlying59
  a24 := Tryz.isAgg59
  z24 := Tryz.sizeOf59
  v24 := Tryz.zeroValue59
  t26 := Tryz.underlying9
  a26 := Tryz.isAgg9
  z26 := Tryz.sizeOf9
  v26 := Tryz.zeroValue9
  t28 := Tryz.underlying89
  a28 := Tryz.isAgg89
  z28 := Tryz.sizeOf89
  v28 := Tryz.zeroValue89
  i26 := by kernel_rfl }
def Tryz.sort49_ren : Go.Shelf.Ren := ⟨fun | 6 => 49 | 8 => 84 | 9 => 83 | 19 => 133 | 20 => 134 | 21 => 124 | 22 => 125 | 23 => 126 | 24 => 127 | 25 => 128 | 26 => 129 | 27 => 130 | 28 => 131 | 29 => 132 | 36 => 173 | 31 => 174 | 32 => 175 | 37 => 176 | 38 => 177 | 39 => 178 | 41 => 192 | n => n, fun | 27 => 59 | 29 => 9 | 3 => 3 | 32 => 78 | 26 => 59 | 0 => 0 | 44 => 185 | 46 => 187 | 4 => 4 | 36 => 179 | 35 => 178 | 41 => 104 | 5 => 5 | 9 => 9 | 53 => 212 | 57 => 216 | 63 => 232 | 64 => 166 | n => n, fun | n => n⟩
theorem Tryz.sort49 : Go.Proofs.SlLaysM.n6 Tryz.prog Tryz.sort49_ren := {
  mixed := by kernel_rfl
  f6 := ⟨Tryz.f49.name, by decide, Tryz.func49.trans (congrArg some (by kernel_rfl))⟩
  f8 := Tryz.func84.trans (congrArg some (by kernel_rfl))
  f9 := ⟨Tryz.f83.name, by decide, Tryz.func83.trans (congrArg some (by kernel_rfl))⟩
  f19 := Tryz.func133.trans (congrArg some (by kernel_rfl))
  f20 := Tryz.func134.trans (congrArg some (by kernel_rfl))
  f21 := ⟨Tryz.f124.name, by decide, Tryz.func124.trans (congrArg some (by kernel_rfl))⟩
  f22 := ⟨Tryz.f125.name, by decide, Tryz.func125.trans (congrArg some (by kernel_rfl))⟩
  f23 := ⟨Tryz.f126.name, by decide, Tryz.func126.trans (congrArg some (by kernel_rfl))⟩
  f24 := ⟨Tryz.f127.name, by decide, Tryz.func127.trans (congrArg some (by kernel_rfl))⟩
  f25 := ⟨Tryz.f128.name, by decide, Tryz.func128.trans (congrArg some (by kernel_rfl))⟩
  f26 := ⟨Tryz.f129.name, by decide, Tryz.func129.trans (congrArg some (by kernel_rfl))⟩
  f27 := ⟨Tryz.f130.name, by decide, Tryz.func130.trans (congrArg some (by kernel_rfl))⟩
  f28 := ⟨Tryz.f131.name, by decide, Tryz.func131.trans (congrArg some (by kernel_rfl))⟩
  f29 := ⟨Tryz.f132.name, by decide, Tryz.func132.trans (congrArg some (by kernel_rfl))⟩
  f31 := Tryz.func174.trans (congrArg some (by kernel_rfl))
  f32 := Tryz.func175.trans (congrArg some (by kernel_rfl))
  f36 := ⟨Tryz.f173.name, by decide, Tryz.func173.trans (congrArg some (by kernel_rfl))⟩
  f37 := ⟨Tryz.f176.name, by decide, Tryz.func176.trans (congrArg some (by kernel_rfl))⟩
  f38 := ⟨Tryz.f177.name, by decide, Tryz.func177.trans (congrArg some (by kernel_rfl))⟩
  f39 := ⟨Tryz.f178.name, by decide, Tryz.func178.trans (congrArg some (by kernel_rfl))⟩
  f41 := ⟨Tryz.f192.name, by decide, Tryz.func192.trans (congrArg some (by kernel_rfl))⟩
  t0 := Tryz.underlying0
  a0 := Tryz.isAgg0
  z0 := Tryz.sizeOf0
  v0 := Tryz.zeroValue0
  t3 := Tryz.underlying3
  a3 := Tryz.isAgg3
  z3 := Tryz.sizeOf3
  v3 := Tryz.zeroValue3
  t4 := Tryz.underlying4
  a4 := Tryz.isAgg4
  z4 := Tryz.sizeOf4
  v4 := Tryz.zeroValue4
  t5 := Tryz.underlying5
  a5 := Tryz.isAgg5
  z5 := Tryz.sizeOf5
  v5 := Tryz.zeroValue5
  t9 := Tryz.underlying9
  a9 := Tryz.isAgg9
  z9 := Tryz.sizeOf9
  v9 := Tryz.zeroValue9
  t26 := Tryz.underlying59
  a26 := Tryz.isAgg59
  z26 := Tryz.sizeOf59
  v26 := Tryz.zeroValue59
  t27 := Tryz.underlying59
  a27 := Tryz.isAgg59
  z27 := Tryz.sizeOf59
  v27 := Tryz.zeroValue59
  t29 := Tryz.underlying9
  a29 := Tryz.isAgg9
  z29 := Tryz.sizeOf9
  v29 := Tryz.zeroValue9
  t32 := Tryz.underlying78
  a32 := Tryz.isAgg78
  z32 := Tryz.sizeOf78
  v32 := Tryz.zeroValue78
  t35 := Tryz.underlying178
  a35 := Tryz.isAgg178
  z35 := Tryz.sizeOf178
  v35 := Tryz.zeroValue178
  t36 := Tryz.underlying179
  a36 := Tryz.isAgg179
  z36 := Tryz.sizeOf179
  v36 := Tryz.zeroValue179
  t41 := Tryz.underlying104
  a41 := Tryz.isAgg104
  z41 := Tryz.sizeOf104
  v41 := Tryz.zeroValue104
  t44 := Tryz.underlying185
  a44 := Tryz.isAgg185
  z44 := Tryz.sizeOf185
  v44 := Tryz.zeroValue185
  t46 := Tryz.underlying187
  a46 := Tryz.isAgg187
  z46 := Tryz.sizeOf187
  v46 := Tryz.zeroValue187
  t53 := Tryz.underlying212
  a53 := Tryz.isAgg212
  z53 := Tryz.sizeOf212
  v53 := Tryz.zeroValue212
  t57 := Tryz.underlying216
  a57 := Tryz.isAgg216
  z57 := Tryz.sizeOf216
  v57 := Tryz.zeroValue216
  t63 := Tryz.underlying232
  a63 := Tryz.isAgg232
  z63 := Tryz.sizeOf232
  v63 := Tryz.zeroValue232
  t64 := Tryz.underlying166
  a64 := Tryz.isAgg166
  z64 := Tryz.sizeOf166
  v64 := Tryz.zeroValue166 }
def Tryz.layHasPrefix_ren : Go.Shelf.Ren := ⟨fun | 99 => 82 | 206 => 123 | n => n, fun | 9 => 9 | 4 => 4 | 3 => 3 | n => n, fun | n => n⟩
theorem Tryz.layHasPrefix : Go.Proofs.Lays.n99 Tryz.prog Tryz.layHasPrefix_ren := {
  mixed := by kernel_rfl
  f99 := Tryz.func82.trans (congrArg some (by kernel_rfl))
  f206 := Tryz.func123.trans (congrArg some (by kernel_rfl))
  t3 := Tryz.underlying3
  a3 := Tryz.isAgg3
  z3 := Tryz.sizeOf3
  v3 := Tryz.zeroValue3
  t4 := Tryz.underlying4
  a4 := Tryz.isAgg4
  z4 := Tryz.sizeOf4
  v4 := Tryz.zeroValue4
  t9 := Tryz.underlying9
  a9 := Tryz.isAgg9
  z9 := Tryz.sizeOf9
  v9 := Tryz.zeroValue9 }
def Tryz.layFormatInt_ren : Go.Shelf.Ren := ⟨fun | 173 => 142 | 246 => 182 | 283 => 194 | 284 => 195 | 285 => 196 | 286 => 197 | 129 => 134 | 317 => 208 | 318 => 209 | 319 => 210 | 320 => 211 | 337 => 215 | 338 => 216 | n => n, fun | 2 => 2 | 3 => 3 | 9 => 9 | 4 => 4 | 171 => 234 | 0 => 0 | 53 => 187 | 37 => 140 | 5 => 5 | 173 => 236 | 212 => 252 | 51 => 185 | 20 => 20 | 213 => 253 | 46 => 78 | 232 => 259 | 233 => 260 | n => n, fun | 17 => 3 | 18 => 4 | 19 => 5 | n => n⟩
theorem Tryz.layFormatInt : Go.Proofs.LaysM.n173 Tryz.prog Tryz.layFormatInt_ren := {
  mixed := by kernel_rfl
  f129 := Tryz.func134.trans (congrArg some (by kernel_rfl))
  f173 := Tryz.func142.trans (congrArg some (by kernel_rfl))
  f246 := Tryz.func182.trans (congrArg some (by kernel_rfl))
  f283 := Tryz.func194.trans (congrArg some (by kernel_rfl))
  f284 := Tryz.func195.trans (congrArg some (by kernel_rfl))
  f285 := Tryz.func196.trans (congrArg some (by kernel_rfl))
  f286 := Tryz.func197.trans (congrArg some (by kernel_rfl))
  f317 := Tryz.func208.trans (congrArg some (by kernel_rfl))
  f318 := Tryz.func209.trans (congrArg some (by kernel_rfl))
  f319 := Tryz.func210.trans (congrArg some (by kernel_rfl))
  f320 := Tryz.func211.trans (congrArg some (by kernel_rfl))
  f337 := Tryz.func215.trans (congrArg some (by kernel_rfl))
  f338 := Tryz.func216.trans (congrArg some (by kernel_rfl))
  t0 := Tryz.underlying0
  a0 := Tryz.isAgg0
  z0 := Tryz.sizeOf0
  v0 := Tryz.zeroValue0
  t2 := Tryz.underlying2
  a2 := Tryz.isAgg2
  z2 := Tryz.sizeOf2
  v2 := Tryz.zeroValue2
  t3 := Tryz.underlying3
  a3 := Tryz.isAgg3
  z3 := Tryz.sizeOf3
  v3 := Tryz.zeroValue3
  t4 := Tryz.underlying4
  a4 := Tryz.isAgg4
  z4 := Tryz.sizeOf4
  v4 := Tryz.zeroValue4
  t5 := Tryz.underlying5
  a5 := Tryz.isAgg5
  z5 := Tryz.sizeOf5
  v5 := Tryz.zeroValue5
  t9 := Tryz.underlying9
  a9 := Tryz.isAgg9
  z9 := Tryz.sizeOf9
  v9 := Tryz.zeroValue9
  t20 := Tryz.underlying20
  a20 := Tryz.isAgg20
  z20 := Tryz.sizeOf20
  v20 := Tryz.zeroValue20
  t37 := Tryz.underlying140
  a37 := Tryz.isAgg140
  z37 := Tryz.sizeOf140
  v37 := Tryz.zeroValue140
  t46 := Tryz.underlying78
  a46 := Tryz.isAgg78
  z46 := Tryz.sizeOf78
  v46 := Tryz.zeroValue78
  t51 := Tryz.underlying185
  a51 := Tryz.isAgg185
  z51 := Tryz.sizeOf185
  v51 := Tryz.zeroValue185
  t53 := Tryz.underlying187
  a53 := Tryz.isAgg187
  z53 := Tryz.sizeOf187
  v53 := Tryz.zeroValue187
  t171 := Tryz.underlying234
  a171 := Tryz.isAgg234
  z171 := Tryz.sizeOf234
  v171 := Tryz.zeroValue234
  t173 := Tryz.underlying236
  a173 := Tryz.isAgg236
  z173 := Tryz.sizeOf236
  v173 := Tryz.zeroValue236
  t212 := Tryz.underlying252
  a212 := Tryz.isAgg252
  z212 := Tryz.sizeOf252
  v212 := Tryz.zeroValue252
  t213 := Tryz.underlying253
  a213 := Tryz.isAgg253
  z213 := Tryz.sizeOf253
  t232 := Tryz.underlying259
  a232 := Tryz.isAgg259
  z232 := Tryz.sizeOf259
  v232 := Tryz.zeroValue259
  t233 := Tryz.underlying260
  a233 := Tryz.isAgg260
  z233 := Tryz.sizeOf260
  v233 := Tryz.zeroValue260
  g17 := by kernel_rfl
  g18 := by kernel_rfl
  g19 := by kernel_rfl
  i0 := by kernel_rfl
  i2 := by kernel_rfl
  i3 := by kernel_rfl
  i4 := by kernel_rfl
  i5 := by kernel_rfl
  i9 := by kernel_rfl
  i20 := by kernel_rfl
  i37 := by kernel_rfl
  i46 := by kernel_rfl
  i51 := by kernel_rfl
  i53 := by kernel_rfl
  i171 := by kernel_rfl
  i173 := by kernel_rfl
  i212 := by kernel_rfl
  i232 := by kernel_rfl
  i233 := by kernel_rfl
  m17 := by kernel_rfl
  m18 := by kernel_rfl
  m19 := by kernel_rfl }
def Tryz.layValid_ren : Go.Shelf.Ren := ⟨fun | 196 => 136 | 259 => 179 | n => n, fun | 9 => 9 | 4 => 4 | 3 => 3 | 5 => 5 | 12 => 12 | 119 => 219 | 0 => 0 | 46 => 78 | 139 => 222 | 138 => 221 | 53 => 187 | n => n, fun | 3 => 0 | 4 => 1 | n => n⟩
theorem Tryz.layValid : Go.Proofs.Lays.n196 Tryz.prog Tryz.layValid_ren := {
  mixed := by kernel_rfl
  f196 := Tryz.func136.trans (congrArg some (by kernel_rfl))
  f259 := Tryz.func179.trans (congrArg some (by kernel_rfl))
  t0 := Tryz.underlying0
  a0 := Tryz.isAgg0
  z0 := Tryz.sizeOf0
  v0 := Tryz.zeroValue0
  t3 := Tryz.underlying3
  a3 := Tryz.isAgg3
  z3 := Tryz.sizeOf3
  v3 := Tryz.zeroValue3
  t4 := Tryz.underlying4
  a4 := Tryz.isAgg4
  z4 := Tryz.sizeOf4
  v4 := Tryz.zeroValue4
  t5 := Tryz.underlying5
  a5 := Tryz.isAgg5
  z5 := Tryz.sizeOf5
  v5 := Tryz.zeroValue5
  t9 := Tryz.underlying9
  a9 := Tryz.isAgg9
  z9 := Tryz.sizeOf9
  v9 := Tryz.zeroValue9
  t12 := Tryz.underlying12
  a12 := Tryz.isAgg12
  z12 := Tryz.sizeOf12
  v12 := Tryz.zeroValue12
  t46 := Tryz.underlying78
  a46 := Tryz.isAgg78
  z46 := Tryz.sizeOf78
  v46 := Tryz.zeroValue78
  t53 := Tryz.underlying187
  a53 := Tryz.isAgg187
  z53 := Tryz.sizeOf187
  v53 := Tryz.zeroValue187
  t119 := Tryz.underlying219
  a119 := Tryz.isAgg219
  z119 := Tryz.sizeOf219
  t138 := Tryz.underlying221
  a138 := Tryz.isAgg221
  z138 := Tryz.sizeOf221
  v138 := Tryz.zeroValue221
  t139 := Tryz.underlying222
  a139 := Tryz.isAgg222
  z139 := Tryz.sizeOf222
  v139 := Tryz.zeroValue222
  g3 := by kernel_rfl
  g4 := by kernel_rfl }
theorem Tryz.sorts37 (m : Nat) : AnyZ.SortsIn Tryz.prog Tryz.sorted37_ren Fence.wide m :=
  ⟨fun blk off cap ss W hH hblk hsz => callsIn_wide.2 (AnyM.slices_Sort_string Tryz.sort49 blk off cap ss W hH hblk hsz),
   fun p cap W => callsIn_wide.2 (AnyM.slices_Sort_string_none Tryz.sort49 p cap W)⟩
theorem Tryz.maps_Keys_38 (mb : Option Nat) (W : World) : CallsIn Fence.wide 5 Tryz.prog 38 #[.map mb] W fun e w' => e = .returned (.func (.func 64) #[] #[.pointer (some ⟨W.heap.size, 0, none⟩)]) ∧ w' = W.alloc (.cells #[.map mb] 26) :=
  AnyZ.keys_in Tryz.keys38 Fence.wide 5 trivial rfl mb W
theorem Tryz.slices_Sorted_keys_37_38 {H : Type} (b nn : Nat) (D0 : DataW H) (R : Value → Option (DataW H × List MemPlace)) (w : World) (hown : w.ownsMap Tryz.prog 9 R b nn D0) (hmax : Maps.size D0 ≤ maxLen) (hbytes : Maps.size D0 * 16 ≤ 140737488355328) :
    CallsIn Fence.wide 5 Tryz.prog 37 #[.func (.func 64) #[] #[.pointer (some ⟨w.heap.size, 0, none⟩)]] (w.alloc (.cells #[.map (some b)] 26)) fun e w' => ∃ (v : Value) (ss : List (List UInt8)), e = .returned v ∧ ss.Perm (strKeys D0) ∧
      w'.ownsRow (w.alloc (.cells #[.map (some b)] 26)).heap.size 9 1 v ss.length ((ss.mergeSort (fun x y => decide (x ≤ y))).map encStr) ∧ (v = .slice none 0 0 ↔ ss = []) ∧ Below (w.alloc (.cells #[.map (some b)] 26)).heap.size (w.alloc (.cells #[.map (some b)] 26)) w' := by
  have hbl := hown.lt
  have hseq : SeqGives Fence.wide 2 Tryz.prog 64 #[.pointer (some ⟨w.heap.size, 0, none⟩)] encStr (fun ss => ss.Perm (strKeys D0)) (Maps.size D0) (w.alloc (.cells #[.map (some b)] 26)) :=
    AnyZ.keys_gives (ρ := Tryz.keys38_ren) { Tryz.keys38 with } Fence.wide _ trivial rfl (by omega) w.heap.size b nn D0 _ (by simp) (by simp) (by
      obtain ⟨es, clock, hb, Ft, hs, hD⟩ := hown
      exact ⟨es, clock, (Below.heap_alloc _ _ b hbl).trans hb, Ft, hs, hD⟩)
  exact AnyZ.sorted_in Tryz.sorted37 Fence.wide 5 trivial trivial trivial trivial rfl (by omega) (Tryz.sorts37 _) (enters_of Tryz.func49 (by kernel_rfl) rfl) 64 #[.pointer (some ⟨w.heap.size, 0, none⟩)] trivial (enters_of Tryz.func64 (by kernel_rfl) rfl) _ _ hmax hbytes _ hseq
theorem Tryz.slices_Sorted_keys_nil_37_38 (w : World) :
    CallsIn Fence.wide 5 Tryz.prog 37 #[.func (.func 64) #[] #[.pointer (some ⟨w.heap.size, 0, none⟩)]] (w.alloc (.cells #[.map none] 26)) fun e w' => ∃ (v : Value) (ss : List (List UInt8)), e = .returned v ∧ ss = [] ∧
      w'.ownsRow (w.alloc (.cells #[.map none] 26)).heap.size 9 1 v ss.length ((ss.mergeSort (fun x y => decide (x ≤ y))).map encStr) ∧ (v = .slice none 0 0 ↔ ss = []) ∧ Below (w.alloc (.cells #[.map none] 26)).heap.size (w.alloc (.cells #[.map none] 26)) w' := by
  have hseq : SeqGives Fence.wide 2 Tryz.prog 64 #[.pointer (some ⟨w.heap.size, 0, none⟩)] encStr (fun ss : List (List UInt8) => ss = []) 0 (w.alloc (.cells #[.map none] 26)) :=
    AnyZ.keys_gives_nil (ρ := Tryz.keys38_ren) { Tryz.keys38 with } Fence.wide _ trivial rfl w.heap.size _ (by simp) (by simp)
  exact AnyZ.sorted_in Tryz.sorted37 Fence.wide 5 trivial trivial trivial trivial rfl (by omega) (Tryz.sorts37 _) (enters_of Tryz.func49 (by kernel_rfl) rfl) 64 #[.pointer (some ⟨w.heap.size, 0, none⟩)] trivial (enters_of Tryz.func64 (by kernel_rfl) rfl) _ 0 (Nat.zero_le _) (by omega) _ hseq
end Go.Proofs.YtechahocffcbpaaGreatDoor
namespace Go.Proofs.YtechahocffcbpaaGreatDoor
open Go.RowKit Go.Maps Go.Shelf
set_option linter.unusedVariables false
set_option linter.unusedSimpArgs false
abbrev numV (n : Int) : Val := .mk 3 false n ByteArray.empty [] [] []
abbrev numA (n : Int) : Value := .agg #[.int .i64 3, .bool false, .int .i64 n, .string ByteArray.empty, .slice none 0 0, .slice none 0 0]
theorem odd_int (w : World) (n : Int) : Calls Tryz.prog 137 #[numA n] w fun e w' => e = .returned (.bool false) ∧ Ext w w' := by
  go_enter Tryz.func137, Tryz.ntmps137
  go_wp2_with fail
  all_goals
    go_ret
    exact ⟨rfl, (Ext.refl w).alloc _ _⟩
theorem may_int (w : World) (n : Int) {j : Nat} (hj : j ≤ 64) : Calls Tryz.prog 93 #[numA n, .int .i64 (j : Int)] w fun e w' => e = .returned (.int .i64 0) ∧ Ext w w' := by
  have ho := fun W => odd_int W n
  have g0 : decide ((64 : Int) < (j : Int)) = false := decide_eq_false (by omega)
  have HO := Lib.hid ho
  clear ho
  go_enter Tryz.func93, Tryz.ntmps93
  go_wp2_with fail
  have hx0 := (Ext.refl w).alloc #[.int .i64 3, .bool false, .int .i64 n, .string ByteArray.empty, .slice none 0 0, .slice none 0 0] 34
  have hb0 := Blk.new w 34 #[.int .i64 3, .bool false, .int .i64 n, .string ByteArray.empty, .slice none 0 0, .slice none 0 0]
  refine (HO.out _).mono ?_
  rintro e w1 ⟨rfl, hx1⟩
  obtain ⟨q0, q1, q2, q3, q4, q5⟩ := (hb0.ext hx1).c6
  have HX := Lib.hid (hx0.trans hx1)
  clear hx0 hx1 hb0
  go_wp2_with fail
  go_ret
  exact ⟨rfl, HX.out⟩
theorem mayV_int (w : World) (n : Int) : Calls Tryz.prog 59 #[numA n] w fun e w' => e = .returned (.int .i64 0) ∧ Ext w w' := by
  have ho := fun W => may_int W n (j := 1) (by omega)
  have HO := Lib.hid ho
  clear ho
  go_enter Tryz.func59, Tryz.ntmps59
  go_wp2_with fail
  have hx0 := (Ext.refl w).alloc #[.int .i64 3, .bool false, .int .i64 n, .string ByteArray.empty, .slice none 0 0, .slice none 0 0] 34
  refine (HO.out _).mono ?_
  rintro e w1 ⟨rfl, hx1⟩
  have HX := Lib.hid (hx0.trans hx1)
  clear hx0 hx1
  go_wp2_with fail
  go_ret
  exact ⟨rfl, HX.out⟩
theorem deep_int (w : World) (n : Int) : Calls Tryz.prog 60 #[numA n] w fun e w' => e = .returned (.int .i64 1) ∧ Ext w w' := by
  go_enter Tryz.func60, Tryz.ntmps60
  go_wp2_with fail
  go_ret
  exact ⟨rfl, (Ext.refl w).alloc _ _⟩
def sumS (ks : List ByteArray) : Nat := (ks.map ByteArray.size).sum
theorem sumS_take {ks : List ByteArray} {j : Nat} {k : ByteArray} (h : ks[j]? = some k) : sumS (ks.take (j + 1)) = sumS (ks.take j) + k.size := by
  obtain ⟨hj, rfl⟩ := List.getElem?_eq_some_iff.1 h
  unfold sumS
  rw [List.take_succ_eq_append_getElem hj, List.map_append, List.sum_append]; simp
theorem sumS_le (ks : List ByteArray) (j : Nat) : sumS (ks.take j) ≤ sumS ks := by
  have : sumS ks = sumS (ks.take j) + sumS (ks.drop j) := by unfold sumS; rw [← List.sum_append, ← List.map_append, List.take_append_drop]
  omega
abbrev wrC (a b : Value) (n : Nat) : Array Value := #[.bool false, a, b, .int .i64 (n : Int)]
theorem join_any {w : World} {B : Nat} {a b : Value} {n : Nat} {F : Nat → Prop} {s : Sl} {ks : List ByteArray} (hB : Blk w B 144 (wrC a b n)) (hr : Rd w F 1 s ks.length (ks.map .string)) (hF : ∀ i, F i → i < w.heap.size ∧ i ≠ B) (hn : n + sumS ks ≤ 100000000) (hkl : ks.length ≤ 1000000) :
    Calls Tryz.prog 139 #[.pointer (some ⟨B, 0, none⟩), .slice s.a ks.length s.c] w fun e w' => (∃ r, e = .returned r) ∧ Blk w' B 144 (wrC a b (n + sumS ks)) ∧ St (fun c => c = B) w w' := by
  obtain ⟨g, o, h1, -, h3⟩ := hr
  have H1 := Lib.hid h1
  have H3 := Lib.hid h3
  have HF := Lib.hid hF
  have HB := Lib.hid hB
  clear h1 h3 hF hB
  go_enter Tryz.func139, Tryz.ntmps139
  go_wp2_with fail
  go_loopw [8] (fun q wr => ∃ j : Nat, q = .int .i64 (j : Int) ∧ j ≤ ks.length ∧ Blk wr B 144 (wrC a b (n + sumS (ks.take j))) ∧ St (fun c => c = B) w wr) (fun q _ => ks.length - (intOf q).toNat)
  case atStart => exact ⟨0, rfl, Nat.zero_le _, by simpa [sumS] using HB.out, St.refl _ _⟩
  case round =>
    obtain ⟨j, rfl, hjl, hb, hst⟩ := hrel
    by_cases hlt : j < ks.length
    · have g1 : decide ((j : Int) < (ks.length : Int)) = true := decide_eq_true (by omega)
      have g1' : (j : Int) < (ks.length : Int) := by omega
      obtain ⟨k, hk⟩ : ∃ k, ks[j]? = some k := ⟨_, List.getElem?_eq_getElem hlt⟩
      obtain ⟨e1, hc, hcm⟩ := H1.out.eq (by omega)
      have lg := HF.out g (H1.out.fits (by omega))
      obtain ⟨sa, sc⟩ := s
      dsimp only at e1 hc hcm
      subst e1
      have c0 : wr.cell? ⟨g, o + j, none⟩ = some (.string k) := (hst.cell lg.1 lg.2).trans (H3.out j _ (by rw [List.getElem?_map, hk]; rfl))
      have c3 : wr.cell? ⟨B, 3, none⟩ = some (.int .i64 ((n + sumS (ks.take j) : Nat) : Int)) := hb.cell 3
      have ck : wr.cell? ⟨B, 0, none⟩ = some (.bool false) := hb.cell 0
      have f3 := hb.frozen 3
      have lB := hb.lt
      have hsum := sumS_take hk
      have hle := sumS_le ks (j + 1)
      obtain ⟨m, hm⟩ : ∃ m, n + sumS (ks.take j) = m := ⟨_, rfl⟩
      have hm2 : n + sumS (ks.take (j + 1)) = m + k.size := by omega
      rw [hm] at c3 hb
      have g2 : IntKind.i64.wrap ((m : Int) + (k.size : Int)) = (m : Int) + (k.size : Int) := by rw [IntKind.wrap_i64]; omega
      have HBL := Lib.hid hb
      have HST := Lib.hid hst
      have HM2 := Lib.hid hm2
      clear hb hst hk hsum hle hm hm2
      go_wp2_with fail
      have hset : St (fun c => c = B) wr (wr.setCell ⟨B, 3, none⟩ (.int .i64 ((m : Int) + (k.size : Int)))) := (St.refl (fun c => c = B) wr).set (p := ⟨B, 3, none⟩) (.inr rfl) _
      have hbs := HBL.out.set_ 3 (.int .i64 ((m : Int) + (k.size : Int)))
      exact ⟨⟨j + 1, rfl, hlt, by rw [HM2.out]; exact hbs, HST.out.trans hset⟩, by show ks.length - ((j : Int) + 1).toNat < ks.length - (j : Int).toNat; omega⟩
    · obtain rfl : j = ks.length := by omega
      have g1 : decide ((ks.length : Int) < (ks.length : Int)) = false := decide_eq_false (by omega)
      rw [List.take_length] at hb
      go_wp2_with fail
      go_end0
      exact ⟨⟨_, rfl⟩, hb, hst⟩
def FmtOK (n : Int) (W : World) : Prop := Calls Tryz.prog 142 #[.int .i64 n, .int .i64 10] W fun e w' => ∃ s : ByteArray, e = .returned (.string s) ∧ s.size ≤ 21 ∧ Nw W w'
theorem own2_int {w : World} {V B : Nat} {a b : Value} {n : Int} {m : Nat} (hV : Blk w V 34 #[.int .i64 3, .bool false, .int .i64 n, .string ByteArray.empty, .slice none 0 0, .slice none 0 0]) (hB : Blk w B 144 (wrC a b m)) (hVB : V ≠ B) (hm : m ≤ 10000000) (hf : ∀ W, Nw w W → FmtOK n W) :
    Calls Tryz.prog 141 #[.pointer (some ⟨B, 0, none⟩), .pointer (some ⟨V, 0, none⟩)] w fun e w' => (∃ r, e = .returned r) ∧ (∃ k, k ≤ 21 ∧ Blk w' B 144 (wrC a b (m + k))) ∧ Sb (fun c => c = B) w w' := by
  have c2 : w.cell? ⟨V, 2, none⟩ = some (.int .i64 n) := hV.cell 2
  have HF := Lib.hid hf
  have HB := Lib.hid hB
  clear hV hB hf
  go_enter Tryz.func141, Tryz.ntmps141
  go_wp2_with fail
  refine (HF.out _ (Sb.refl _ w)).mono ?_
  rintro e w1 ⟨s, rfl, hs, hn1⟩
  have hx2 : Ext w1 (w1.alloc (.cells #[.string s] 9)) := (Ext.refl w1).alloc _ _
  have hb2 := (hn1.blk HB.out).ext hx2
  have hl1 := (hn1.blk HB.out).lt
  have hj := join_any (s := ⟨some ⟨w1.heap.size, 0, none⟩, 1⟩) (ks := [s]) hb2 (Rd.block (Blk.new w1 9 #[.string s]) (by decide) rfl) (fun i hi => by subst hi; exact ⟨by simp, by omega⟩) (by simp [sumS]; omega) (by simp)
  have HJ := Lib.hid hj
  have HN := Lib.hid (hn1.trans (Nw.of hx2))
  have HS := Lib.hid hs
  clear hj hn1 hx2 hb2 hs
  go_wp2_with fail
  refine HJ.out.mono ?_
  rintro e w3 ⟨⟨r, rfl⟩, hb3, hst3⟩
  have HB3 := Lib.hid hb3
  have HS3 := Lib.hid hst3
  clear hb3 hst3
  go_wp2_with fail
  go_end0
  exact ⟨⟨_, rfl⟩, ⟨s.size, HS.out, by have := HB3.out; simpa [sumS] using this⟩, (Nw.any HN.out _).trans HS3.out.sb⟩
theorem own_int (w : World) (n : Int) : Calls Tryz.prog 94 #[numA n] w fun e w' => e = .returned (.func (.func 141) #[] #[.pointer (some ⟨w.heap.size, 0, none⟩)]) ∧ Ext w w' ∧ Blk w' w.heap.size 34 #[.int .i64 3, .bool false, .int .i64 n, .string ByteArray.empty, .slice none 0 0, .slice none 0 0] := by
  go_enter Tryz.func94, Tryz.ntmps94
  go_wp2_with fail
  go_ret
  exact ⟨rfl, (Ext.refl w).alloc _ _, Blk.new w _ _⟩
theorem bytes_int (w : World) (n : Int) (hf : ∀ W, Nw w W → FmtOK n W) : Calls Tryz.prog 61 #[numA n] w fun e w' => ∃ k : Nat, k ≤ 21 ∧ e = .returned (.int .i64 (k : Int)) ∧ Nw w w' := by
  have ho := fun W => own_int W n
  have HF := Lib.hid hf
  have HO := Lib.hid ho
  clear hf ho
  go_enter Tryz.func61, Tryz.ntmps61
  go_wp2_with fail
  generalize hW0 : World.alloc _ _ = W0
  obtain ⟨hx0, hz0, hb0, hb1⟩ := two_blocks w _ _ _ _ W0 hW0
  have HX0 := Lib.hid hx0
  have HB1 := Lib.hid hb1
  have HZ := Lib.hid hz0
  clear hW0 hx0 hb0 hb1 hz0
  refine (HO.out W0).mono ?_
  rintro e w1 ⟨rfl, hx1, hbv⟩
  have hw1 := HB1.out.ext hx1
  have hn1 := (Nw.of HX0.out).trans (Nw.of hx1)
  have hc := own2_int (m := 0) hbv hw1 (by have := HB1.out.lt; omega) (Nat.zero_le _) (fun W hW => HF.out W (hn1.trans hW))
  have HC := Lib.hid hc
  have HN1 := Lib.hid hn1
  clear hx1 hbv hw1 hn1 hc
  go_wp2_with fail
  refine HC.out.mono ?_
  rintro e w2 ⟨⟨r, rfl⟩, ⟨k, hk, hb⟩, hs⟩
  have c3 : w2.cell? ⟨w.heap.size + 1, 3, none⟩ = some (.int .i64 ((0 + k : Nat) : Int)) := hb.cell 3
  rw [Nat.zero_add] at c3
  have HN2 := Lib.hid (((Nw.any HN1.out (fun b => w.heap.size ≤ b)).trans (hs.mono fun i _ e => by omega)).mono (G := fun _ => False) fun i hi e => by omega)
  have HK := Lib.hid hk
  clear hb hs hk
  go_wp2_with fail
  go_ret
  exact ⟨k, HK.out, rfl, HN2.out⟩
theorem fits_int (w : World) (n : Int) (hf : ∀ W, Nw w W → FmtOK n W) : Calls Tryz.prog 34 #[numA n] w fun e w' => e = .returned (.int .i64 0) ∧ Nw w w' := by
  have hm := fun W => mayV_int W n
  have hd := fun W => deep_int W n
  have hb := fun W (hW : Nw w W) => bytes_int W n fun W' hW' => hf W' (hW.trans hW')
  have HM := Lib.hid hm
  have HD := Lib.hid hd
  have HB := Lib.hid hb
  clear hm hd hb hf
  go_enter Tryz.func34, Tryz.ntmps34
  go_wp2_with fail
  have hx0 := (Ext.refl w).alloc #[.int .i64 3, .bool false, .int .i64 n, .string ByteArray.empty, .slice none 0 0, .slice none 0 0] 34
  have hb0 := Blk.new w 34 #[.int .i64 3, .bool false, .int .i64 n, .string ByteArray.empty, .slice none 0 0, .slice none 0 0]
  refine (HM.out _).mono ?_
  rintro e w1 ⟨rfl, hx1⟩
  have hb1 := hb0.ext hx1
  obtain ⟨q0, q1, q2, q3, q4, q5⟩ := hb1.c6
  have HX1 := Lib.hid (hx0.trans hx1)
  have HB1 := Lib.hid hb1
  clear hx0 hb0 hx1 hb1
  go_wp2_with fail
  refine (HD.out _).mono ?_
  rintro e w2 ⟨rfl, hx2⟩
  have hb2 := HB1.out.ext hx2
  clear q0 q1 q2 q3 q4 q5
  obtain ⟨q0, q1, q2, q3, q4, q5⟩ := hb2.c6
  have HX2 := Lib.hid (HX1.out.trans hx2)
  clear hx2 hb2
  go_wp2_with fail
  refine (HB.out _ (Nw.of HX2.out)).mono ?_
  rintro e w3 ⟨k, hk, rfl, hn3⟩
  have g0 : decide ((1024 : Int) < (k : Int)) = false := decide_eq_false (by omega)
  have HN3 := Lib.hid ((Nw.of HX2.out).trans hn3)
  clear hn3 q0 q1 q2 q3 q4 q5
  go_wp2_with fail
  go_ret
  exact ⟨rfl, HN3.out⟩
abbrev numLC (n : Int) : Array Value := #[.int .i64 3, .bool false, .int .i64 n, .string ByteArray.empty, .slice none 0 0, .slice none 0 0]
abbrev oneLC (g : Nat) : Array Value := #[.int .i64 5, .bool false, .int .i64 0, .string ByteArray.empty, .slice (some ⟨g, 0, none⟩) 1 1, .slice none 0 0]
abbrev oneLA (g : Nat) : Value := .agg (oneLC g)
theorem odd_one (w : World) (g : Nat) : Calls Tryz.prog 137 #[oneLA g] w fun e w' => e = .returned (.bool false) ∧ Ext w w' := by
  go_enter Tryz.func137, Tryz.ntmps137
  go_wp2_with fail
  all_goals
    go_ret
    exact ⟨rfl, (Ext.refl w).alloc _ _⟩
theorem may_one {w : World} {g : Nat} {n : Int} (hg : Blk w g 34 (numLC n)) : Calls Tryz.prog 93 #[oneLA g, .int .i64 1] w fun e w' => e = .returned (.int .i64 0) ∧ Ext w w' := by
  have ho := fun W => odd_one W g
  have hm := fun W => may_int W n (j := 2) (by omega)
  have HO := Lib.hid ho
  have HM := Lib.hid hm
  have HG := Lib.hid hg
  clear ho hm hg
  go_enter Tryz.func93, Tryz.ntmps93
  go_wp2_with fail
  have hx0 := (Ext.refl w).alloc (oneLC g) 34
  have hb0 := Blk.new w 34 (oneLC g)
  refine (HO.out _).mono ?_
  rintro e w1 ⟨rfl, hx1⟩
  obtain ⟨q0, q1, q2, q3, q4, q5⟩ := (hb0.ext hx1).c6
  have lq := (hb0.ext hx1).lt
  have HX := Lib.hid (hx0.trans hx1)
  clear hx0 hx1 hb0
  go_wp2_with fail
  go_loopw [30] (fun q wr => ∃ j : Nat, q = .int .i64 j ∧ j ≤ 1 ∧ Ext w1 wr) (fun q _ => 1 - (intOf q).toNat)
  case atStart => exact ⟨0, rfl, Nat.zero_le _, Ext.refl w1⟩
  case round =>
    obtain ⟨j, rfl, hj, hx⟩ := hrel
    by_cases h1 : j < 1
    · obtain rfl : j = 0 := by omega
      obtain ⟨u0, u1, u2, u3, u4, u5⟩ := (HG.out.ext (HX.out.trans hx)).c6
      have lg := (HG.out.ext (HX.out.trans hx)).lt
      have HXR := Lib.hid hx
      clear hx
      go_wp2_with fail
      refine (HM.out _).mono ?_
      rintro e w2 ⟨rfl, hx2⟩
      have HX2 := Lib.hid ((HXR.out.alloc (numLC n) 34).trans hx2)
      clear hx2
      go_wp2_with fail
      go_roundw
      case rel => exact ⟨1, by go_num, Nat.le_refl _, HX2.out⟩
      case measure => simp [intOf]
    · obtain rfl : j = 1 := by omega
      have HXR := Lib.hid hx
      clear hx
      go_wp2_with fail
      go_ret
      exact ⟨rfl, HX.out.trans HXR.out⟩
theorem mayV_one {w : World} {g : Nat} {n : Int} (hg : Blk w g 34 (numLC n)) : Calls Tryz.prog 59 #[oneLA g] w fun e w' => e = .returned (.int .i64 0) ∧ Ext w w' := by
  have hx0 := (Ext.refl w).alloc (oneLC g) 34
  have ho := may_one (hg.ext hx0)
  have HO := Lib.hid ho
  have HX0 := Lib.hid hx0
  clear ho hg hx0
  go_enter Tryz.func59, Tryz.ntmps59
  go_wp2_with fail
  refine HO.out.mono ?_
  rintro e w1 ⟨rfl, hx1⟩
  have HX := Lib.hid (HX0.out.trans hx1)
  clear hx1
  go_wp2_with fail
  go_ret
  exact ⟨rfl, HX.out⟩
theorem deep_one {w : World} {g : Nat} {n : Int} (hg : Blk w g 34 (numLC n)) : Calls Tryz.prog 60 #[oneLA g] w fun e w' => e = .returned (.int .i64 2) ∧ Ext w w' := by
  have hm := fun W => deep_int W n
  have HM := Lib.hid hm
  have HG := Lib.hid hg
  have lg0 := hg.lt
  clear hm hg
  go_enter Tryz.func60, Tryz.ntmps60
  go_wp2_with fail
  generalize hW0 : World.alloc w _ = w1
  have hx1 : Ext w w1 := by rw [← hW0]; exact (Ext.refl w).alloc (oneLC g) 34
  have HX := Lib.hid hx1
  clear hW0 hx1
  go_loopw [3, 15] (fun dp q wr => ∃ j : Nat, dp = .int .i64 j ∧ q = .int .i64 j ∧ j ≤ 1 ∧ Ext w1 wr) (fun _ q _ => 1 - (intOf q).toNat)
  case atStart => exact ⟨0, rfl, rfl, Nat.zero_le _, Ext.refl w1⟩
  case round =>
    obtain ⟨j, rfl, rfl, hj, hx⟩ := hrel
    by_cases h1 : j < 1
    · obtain rfl : j = 0 := by omega
      obtain ⟨u0, u1, u2, u3, u4, u5⟩ := (HG.out.ext (HX.out.trans hx)).c6
      have lg := (HG.out.ext (HX.out.trans hx)).lt
      have HXR := Lib.hid hx
      clear hx
      go_wp2_with fail
      refine (HM.out _).mono ?_
      rintro e w2 ⟨rfl, hx2⟩
      have HX2 := Lib.hid ((HXR.out.alloc (numLC n) 34).trans hx2)
      clear hx2
      go_wp2_with fail
      go_roundw
      case rel => exact ⟨1, by go_num, by go_num, Nat.le_refl _, HX2.out⟩
      case measure => simp [intOf]
    · obtain rfl : j = 1 := by omega
      have HXR := Lib.hid hx
      clear hx
      go_wp2_with fail
      go_ret
      exact ⟨rfl, HX.out.trans HXR.out⟩
theorem between_any (w : World) (j : Nat) : Calls Tryz.prog 146 #[.int .i64 (j : Int)] w fun e w' => ∃ s : ByteArray, e = .returned (.string s) ∧ s.size ≤ 1 ∧ Ext w w' := by
  by_cases h : j = 0
  · subst h
    go_enter Tryz.func146, Tryz.ntmps146
    go_wp2_with fail
    go_ret
    exact ⟨_, rfl, by decide, Ext.refl w⟩
  · have g0 : ((j : Int) == 0) = false := by simp; omega
    go_enter Tryz.func146, Tryz.ntmps146
    go_wp2_with fail
    go_ret
    exact ⟨_, rfl, by decide, Ext.refl w⟩
theorem join_one {w : World} {B : Nat} {a b : Value} {m : Nat} (s : ByteArray) (hB : Blk w B 144 (wrC a b m)) (hm : m ≤ 10000000) (hs : s.size ≤ 1000) :
    Calls Tryz.prog 139 #[.pointer (some ⟨B, 0, none⟩), .slice (some ⟨w.heap.size, 0, none⟩) 1 1] (w.alloc (.cells #[.string s] 9)) fun e w' => (∃ r, e = .returned r) ∧ Blk w' B 144 (wrC a b (m + s.size)) ∧ Sb (fun c => c = B) w w' := by
  have hx : Ext w (w.alloc (.cells #[.string s] 9)) := (Ext.refl w).alloc _ _
  have hl := hB.lt
  have hj := join_any (s := ⟨some ⟨w.heap.size, 0, none⟩, 1⟩) (ks := [s]) (hB.ext hx) (Rd.block (Blk.new w 9 #[.string s]) (by decide) rfl) (fun i hi => by subst hi; exact ⟨by simp, by omega⟩) (by simp [sumS]; omega) (by simp)
  exact hj.mono fun e w' ⟨h1, h2, h3⟩ => ⟨h1, by simpa [sumS] using h2, (Nw.any (Nw.of hx) _).trans h3.sb⟩
theorem own4_one {w : World} {V B g : Nat} {a b : Value} {n : Int} {m : Nat} (hV : Blk w V 34 (oneLC g)) (hg : Blk w g 34 (numLC n)) (hB : Blk w B 144 (wrC a b m)) (hVB : V ≠ B) (hgB : g ≠ B) (hm : m ≤ 1000000) (hf : ∀ W, Nw w W → FmtOK n W)
    (hf' : ∀ W, Sb (fun c => c = B) w W → FmtOK n W) :
    Calls Tryz.prog 145 #[.pointer (some ⟨B, 0, none⟩), .pointer (some ⟨V, 0, none⟩)] w fun e w' => (∃ r, e = .returned r) ∧ (∃ k, k ≤ 30 ∧ Blk w' B 144 (wrC a b (m + k))) ∧ Sb (fun c => c = B) w w' := by
  have hj0 := join_one (w := w) ⟨#[91]⟩ hB (by omega) (by decide)
  have hbt := fun W j => between_any W j
  have ho := fun W => own_int W n
  have HJ0 := Lib.hid hj0
  have HBT := Lib.hid hbt
  have HO := Lib.hid ho
  have HV := Lib.hid hV
  have HG := Lib.hid hg
  have HF := Lib.hid hf'
  have hVl := hV.lt
  have hgl := hg.lt
  have hBl := hB.lt
  clear hj0 hbt ho hV hg hB hf hf'
  go_enter Tryz.func145, Tryz.ntmps145
  go_wp2_with fail
  refine HJ0.out.mono ?_
  rintro e w1 ⟨⟨r, rfl⟩, hb1, hs1⟩
  obtain ⟨q0, q1, q2, q3, q4, q5⟩ := (hs1.blk HV.out hVB).c6
  have HB1 := Lib.hid hb1
  have HS1 := Lib.hid hs1
  clear hb1 hs1 HJ0
  go_wp2_with fail
  go_loopw [11] (fun q wr => ∃ (j k : Nat), q = .int .i64 j ∧ j ≤ 1 ∧ k ≤ 1 + 25 * j ∧ Blk wr B 144 (wrC a b (m + k)) ∧ Sb (fun c => c = B) w wr) (fun q _ => 1 - (intOf q).toNat)
  case atStart => exact ⟨0, 1, rfl, Nat.zero_le _, Nat.le_refl _, HB1.out, HS1.out⟩
  case round =>
    obtain ⟨j, k, rfl, hj, hk, hb, hs⟩ := hrel
    by_cases h1 : j < 1
    · obtain rfl : j = 0 := by omega
      obtain ⟨u0, u1, u2, u3, u4, u5⟩ := (hs.blk HG.out hgB).c6
      have lg := (hs.blk HG.out hgB).lt
      have HB := Lib.hid hb
      have HS := Lib.hid hs
      clear hb hs
      go_wp2_with fail
      have hx2 : Ext wr (wr.alloc (.cells (numLC n) 34)) := (Ext.refl wr).alloc _ _
      have hb2 := Blk.new wr 34 (numLC n)
      refine (HBT.out _ 0).mono ?_
      rintro e w2 ⟨t, rfl, ht, hx3⟩
      have hj2 := join_one (w := w2) t (HB.out.ext (hx2.trans hx3)) (by omega) (by omega)
      have HJ2 := Lib.hid hj2
      have HI := Lib.hid (hb2.ext hx3)
      have HS2 := Lib.hid (HS.out.ext (hx2.trans hx3))
      have HTS := Lib.hid ht
      have hlr := HB.out.lt
      clear hx2 hb2 hx3 hj2 ht
      go_wp2_with fail
      refine HJ2.out.mono ?_
      rintro e w3 ⟨⟨r2, rfl⟩, hb3, hs3⟩
      have hi3 := hs3.blk HI.out (by omega)
      obtain ⟨v0, v1, v2, v3, v4, v5⟩ := hi3.c6
      have HB3 := Lib.hid hb3
      have HS3 := Lib.hid (HS2.out.trans hs3)
      clear hb3 hs3 hi3 HJ2
      go_wp2_with fail
      refine (HO.out _).mono ?_
      rintro e w4 ⟨rfl, hx4, hbv⟩
      have hc := own2_int (m := m + k + t.size) hbv (HB3.out.ext hx4) (by have := HB3.out.lt; omega) (by have := HTS.out; omega) (fun W hW => HF.out W ((HS3.out.ext hx4).trans (hW.any _)))
      have HC := Lib.hid hc
      have HS4 := Lib.hid (HS3.out.ext hx4)
      clear hx4 hbv hc v0 v1 v2 v3 v4 v5
      go_wp2_with fail
      refine HC.out.mono ?_
      rintro e w5 ⟨⟨r3, rfl⟩, ⟨k2, hk2, hb5⟩, hs5⟩
      have HB5 := Lib.hid hb5
      have HS5 := Lib.hid (HS4.out.trans hs5)
      clear hb5 hs5
      go_wp2_with fail
      go_roundw
      case rel => exact ⟨1, k + t.size + k2, by go_num, Nat.le_refl _, by have := HTS.out; omega, by rw [show m + (k + t.size + k2) = m + k + t.size + k2 by omega]; exact HB5.out, HS5.out⟩
      case measure => simp [intOf]
    · obtain rfl : j = 1 := by omega
      have hj1 := join_one (w := wr) ⟨#[93]⟩ hb (by omega) (by decide)
      have HJ1 := Lib.hid hj1
      have HS := Lib.hid hs
      clear hj1 hb hs
      go_wp2_with fail
      refine HJ1.out.mono ?_
      rintro e w3 ⟨⟨r2, rfl⟩, hb3, hs3⟩
      have HB3 := Lib.hid hb3
      have HS3 := Lib.hid (HS.out.trans hs3)
      clear hb3 hs3 HJ1
      go_wp2_with fail
      go_end0
      exact ⟨⟨_, rfl⟩, ⟨k + 1, by omega, HB3.out⟩, HS3.out⟩
theorem own_one12 (w : World) (g : Nat) : Calls Tryz.prog 94 #[oneLA g] w fun e w' => e = .returned (.func (.func 145) #[] #[.pointer (some ⟨w.heap.size, 0, none⟩)]) ∧ Ext w w' ∧ Blk w' w.heap.size 34 (oneLC g) := by
  go_enter Tryz.func94, Tryz.ntmps94
  go_wp2_with fail
  go_ret
  exact ⟨rfl, (Ext.refl w).alloc _ _, Blk.new w _ _⟩
theorem bytes_one {w : World} {g : Nat} {n : Int} (hg : Blk w g 34 (numLC n)) (hf : ∀ W, Nw w W → FmtOK n W) : Calls Tryz.prog 61 #[oneLA g] w fun e w' => ∃ k : Nat, k ≤ 30 ∧ e = .returned (.int .i64 (k : Int)) ∧ Nw w w' := by
  have ho := fun W => own_one12 W g
  have HF := Lib.hid hf
  have HO := Lib.hid ho
  have HG := Lib.hid hg
  have lg := hg.lt
  clear hf ho hg
  go_enter Tryz.func61, Tryz.ntmps61
  go_wp2_with fail
  generalize hW0 : World.alloc _ _ = W0
  obtain ⟨hx0, hz0, hb0, hb1⟩ := two_blocks w _ _ _ _ W0 hW0
  have HX0 := Lib.hid hx0
  have HB1 := Lib.hid hb1
  have HZ := Lib.hid hz0
  clear hW0 hx0 hb0 hb1 hz0
  refine (HO.out W0).mono ?_
  rintro e w1 ⟨rfl, hx1, hbv⟩
  have hw1 := HB1.out.ext hx1
  have hn1 := (Nw.of HX0.out).trans (Nw.of hx1)
  have hc := own4_one (m := 0) hbv (Nw.blk hn1 HG.out) hw1 (by have := HB1.out.lt; omega) (by omega) (Nat.zero_le _) (fun W hW => HF.out W (hn1.trans hW)) (fun W hW => HF.out W (hn1.comp hW fun i hi e => by omega))
  have HC := Lib.hid hc
  have HN1 := Lib.hid hn1
  clear hx1 hbv hw1 hn1 hc
  go_wp2_with fail
  refine HC.out.mono ?_
  rintro e w2 ⟨⟨r, rfl⟩, ⟨k, hk, hb⟩, hs⟩
  have c3 : w2.cell? ⟨w.heap.size + 1, 3, none⟩ = some (.int .i64 ((0 + k : Nat) : Int)) := hb.cell 3
  rw [Nat.zero_add] at c3
  have HN2 := Lib.hid (HN1.out.comp hs fun i hi e => by omega)
  have HK := Lib.hid hk
  clear hb hs hk
  go_wp2_with fail
  go_ret
  exact ⟨k, HK.out, rfl, HN2.out⟩
theorem fits_one {w : World} {g : Nat} {n : Int} (hg : Blk w g 34 (numLC n)) (hf : ∀ W, Nw w W → FmtOK n W) : Calls Tryz.prog 34 #[oneLA g] w fun e w' => e = .returned (.int .i64 0) ∧ Nw w w' := by
  have hm := fun W (hW : Ext w W) => mayV_one (hg.ext hW)
  have hd := fun W (hW : Ext w W) => deep_one (hg.ext hW)
  have hb := fun W (hW : Nw w W) => bytes_one (hW.blk hg) fun W' hW' => hf W' (hW.trans hW')
  have HM := Lib.hid hm
  have HD := Lib.hid hd
  have HB := Lib.hid hb
  clear hm hd hb hf hg
  go_enter Tryz.func34, Tryz.ntmps34
  go_wp2_with fail
  have hx0 := (Ext.refl w).alloc (oneLC g) 34
  have hb0 := Blk.new w 34 (oneLC g)
  refine (HM.out _ hx0).mono ?_
  rintro e w1 ⟨rfl, hx1⟩
  have hb1 := hb0.ext hx1
  obtain ⟨q0, q1, q2, q3, q4, q5⟩ := hb1.c6
  have HX1 := Lib.hid (hx0.trans hx1)
  have HB1 := Lib.hid hb1
  clear hx0 hb0 hx1 hb1
  go_wp2_with fail
  refine (HD.out _ HX1.out).mono ?_
  rintro e w2 ⟨rfl, hx2⟩
  have hb2 := HB1.out.ext hx2
  clear q0 q1 q2 q3 q4 q5
  obtain ⟨q0, q1, q2, q3, q4, q5⟩ := hb2.c6
  have HX2 := Lib.hid (HX1.out.trans hx2)
  clear hx2 hb2
  go_wp2_with fail
  refine (HB.out _ (Nw.of HX2.out)).mono ?_
  rintro e w3 ⟨k, hk, rfl, hn3⟩
  have g0 : decide ((1024 : Int) < (k : Int)) = false := decide_eq_false (by omega)
  have HN3 := Lib.hid ((Nw.of HX2.out).trans hn3)
  clear hn3 q0 q1 q2 q3 q4 q5
  go_wp2_with fail
  go_ret
  exact ⟨rfl, HN3.out⟩
theorem commit_none {H : Nat → Prop} {w : World} {O : Nat} {d : OD} (h : OvAt H w O d) (hm : d.mb = none) : Calls Tryz.prog 12 #[.pointer (some ⟨O, 0, none⟩)] w fun e w' => e = .returned (treeV d.T) ∧ Nw w w' := by
  have c0 : w.cell? ⟨O, 0, none⟩ = some (rootV d.T) := h.blk.cell 0
  have c1 : w.cell? ⟨O, 1, none⟩ = some (.map none) := by have := h.blk.cell 1; rw [hm] at this; exact this
  have lO := h.blk.lt
  obtain ⟨r, hr⟩ := rootV_ptr d.T
  rw [treeV, hr]
  rw [hr] at c0
  have l1 : O < w.heap.size + 1 := by omega
  have l2 : O < w.heap.size + 1 + 1 := by omega
  clear h hm hr
  go_enter Tryz.func12, Tryz.ntmps12
  go_wp2_with fail
  generalize hW0 : World.alloc _ _ = W0
  obtain ⟨hx0, hz0, hb0, hb1⟩ := two_blocks w _ _ _ _ W0 hW0
  have HX0 := Lib.hid hx0
  have HB0 := Lib.hid hb0
  have HB1 := Lib.hid hb1
  have HZ0 := Lib.hid hz0
  clear hW0 hx0 hb0 hb1 l1 l2 hz0
  refine ((callsIn_wide (n := 5)).1 (Tryz.maps_Keys_38 none W0)).mono ?_
  rintro e w' ⟨rfl, rfl⟩
  go_wp2_with fail
  refine ((callsIn_wide (n := 5)).1 (Tryz.slices_Sorted_keys_nil_37_38 W0)).mono ?_
  rintro e w2 ⟨v, ss, rfl, rfl, hrow, hnil, hbl⟩
  obtain rfl := hnil.2 rfl
  have hn2 : Nw W0 w2 := (Nw.of ((Ext.refl W0).alloc #[.map none] 26)).trans (Sb.new hbl)
  have hb0 := hn2.blk HB0.out
  have hb1 := hn2.blk HB1.out
  have q0 : w2.cell? ⟨w.heap.size, 0, none⟩ = some (.pointer none) := hb0.cell 0
  have q1 : w2.cell? ⟨w.heap.size + 1, 0, none⟩ = some (.pointer r) := hb1.cell 0
  have f0 := hb0.frozen 0
  have k0 := hb0.lt
  have k1 := hb1.lt
  have HN := Lib.hid (show Nw w (w2.setCell ⟨w.heap.size, 0, none⟩ (.pointer r)) from
    (((Nw.of HX0.out).any (fun b => w.heap.size ≤ b)).trans (hn2.any _)).set (p := ⟨w.heap.size, 0, none⟩) (.inl (Nat.le_refl _)) _ |>.mono fun i hi e => by omega)
  clear hrow hnil hbl hn2 hb0 hb1 c0 c1
  go_wp2_with fail
  go_loopw [23] (fun q wr => q = .int .i64 0 ∧ wr = w2) (fun _ _ => 0)
  case atStart => exact ⟨rfl, rfl⟩
  case round =>
    obtain ⟨rfl, rfl⟩ := hrel
    go_wp2_with fail
    refine bodyPost_ret (v := .agg #[.pointer r]) (by simp [results, Tryz.results12, go_sem, q0]) rfl ?_
    exact ⟨rfl, HN.out⟩
end Go.Proofs.YtechahocffcbpaaGreatDoor
namespace Go.Proofs.YtechahocffcbpaaGreatDoor
set_option linter.unusedVariables false
def inI (lo hi : ByteArray) (op : Bool) (e : Ent) : Bool := !(klt e.1 lo) && (op || klt e.1 hi)
def rangeE (lo hi : ByteArray) (op : Bool) (es : List Ent) : List Ent := es.filter (inI lo hi op)
theorem rangeE_app (lo hi : ByteArray) (op : Bool) (a b : List Ent) : rangeE lo hi op (a ++ b) = rangeE lo hi op a ++ rangeE lo hi op b := List.filter_append ..
theorem rangeE_below {lo hi : ByteArray} {op : Bool} {es : List Ent} (h : ∀ e ∈ es, klt e.1 lo = true) : rangeE lo hi op es = [] :=
  List.filter_eq_nil_iff.2 fun e he => by simp [inI, h e he]
def endI (hi : ByteArray) (op : Bool) (k : ByteArray) : Bool := !op && !(klt k hi)
theorem rangeE_above {lo hi : ByteArray} {op : Bool} {es : List Ent} (h : ∀ e ∈ es, endI hi op e.1 = true) : rangeE lo hi op es = [] :=
  List.filter_eq_nil_iff.2 fun e he => by
    have := h e he
    simp only [endI, Bool.and_eq_true, Bool.not_eq_true'] at this
    simp [inI, this.1, this.2]
theorem endI_up {hi : ByteArray} {op : Bool} {a b : ByteArray} (h : endI hi op a = true) (hab : klt a b = true) : endI hi op b = true := by
  simp only [endI, Bool.and_eq_true, Bool.not_eq_true'] at h ⊢
  refine ⟨h.1, ?_⟩
  cases hb : klt b hi
  · rfl
  · rw [klt_trans hab hb] at h; cases h.2
theorem rangeE_one {lo hi : ByteArray} {op : Bool} {e : Ent} (h1 : klt e.1 lo = false) (h2 : endI hi op e.1 = false) : rangeE lo hi op [e] = [e] := by
  have : inI lo hi op e = true := by
    simp only [endI, Bool.and_eq_false_iff, Bool.not_eq_false'] at h2
    rcases h2 with h2 | h2 <;> simp [inI, h1, h2]
  simp [rangeE, this]
theorem rangeE_behind {lo hi : ByteArray} {op : Bool} {A B : List Ent} (hs : Sorted (A ++ B)) (h : ∃ e ∈ A, endI hi op e.1 = true) : rangeE lo hi op B = [] := by
  obtain ⟨e, he, h⟩ := h
  exact rangeE_above fun x hx => endI_up h ((sorted_app hs).2.2 e he x hx)
theorem le_last {es : List Ent} (hs : Sorted es) {e : Ent} (he : e ∈ es) : klt (lastK es) e.1 = false := by
  have hne : es ≠ [] := by rintro rfl; cases he
  rcases List.eq_nil_or_concat es with rfl | ⟨a, x, rfl⟩
  · exact absurd rfl hne
  · rw [List.concat_eq_append] at hs he
    have hl : lastK (a.concat x) = x.1 := by simp [lastK]
    rw [hl]
    rcases List.mem_append.1 he with h | h
    · exact klt_asymm ((sorted_app hs).2.2 e h x (List.mem_singleton.2 rfl))
    · rw [List.mem_singleton.1 h]; exact klt_irrefl _
theorem first_le {es : List Ent} (hs : Sorted es) {e : Ent} (he : e ∈ es) : klt e.1 (firstK es) = false := by
  cases es with
  | nil => cases he
  | cons x es =>
    show klt e.1 x.1 = false
    rcases List.mem_cons.1 he with rfl | h
    · exact klt_irrefl _
    · exact klt_asymm ((List.pairwise_cons.1 hs).1 e h)
theorem lt_of_last {es : List Ent} (hs : Sorted es) {lo : ByteArray} (h : klt (lastK es) lo = true) : ∀ e ∈ es, klt e.1 lo = true := fun e he => klt_of_ge_lt (le_last hs he) h
theorem end_of_first {es : List Ent} (hs : Sorted es) {hi : ByteArray} {op : Bool} (h : endI hi op (firstK es) = true) : ∀ e ∈ es, endI hi op e.1 = true := fun e he => by
  simp only [endI, Bool.and_eq_true, Bool.not_eq_true'] at h ⊢
  refine ⟨h.1, ?_⟩
  cases hb : klt e.1 hi
  · rfl
  · have := klt_of_ge_lt (first_le hs he) hb
    rw [h.2] at this; cases this
def endL : List UInt8 → Option (List UInt8)
  | [] => none
  | b :: t => match endL t with
    | some e => some (b :: e)
    | none => if b = 255 then none else some [b + 1]
theorem bl_nil (k : List UInt8) : Op.bytesLess k [] = false := by cases k <;> rfl
theorem u8_lt_succ {b c : UInt8} (hb : b ≠ 255) : (c < b + 1) ↔ (c < b ∨ c = b) := by
  have h1 : (b + 1).toNat = b.toNat + 1 := by
    rw [UInt8.toNat_add]
    have : b.toNat ≠ 255 := fun e => hb (UInt8.toNat_inj.1 e)
    have := b.toNat_lt
    show (b.toNat + 1) % 256 = _
    omega
  rw [UInt8.lt_iff_toNat_lt, UInt8.lt_iff_toNat_lt, h1, ← UInt8.toNat_inj]
  omega
theorem begins_iff : ∀ p k : List UInt8, (p.isPrefixOf k) = (!(Op.bytesLess k p) && (match endL p with | none => true | some e => Op.bytesLess k e))
  | [], k => by simp [bl_nil, endL, List.isPrefixOf]
  | b :: t, [] => by simp [Op.bytesLess, List.isPrefixOf]
  | b :: t, c :: s => by
    have ih := begins_iff t s
    simp only [List.isPrefixOf, Op.bytesLess, endL]
    by_cases hlt : c < b
    · have hne : (b == c) = false := beq_eq_false_iff_ne.2 (by rintro rfl; exact absurd hlt (UInt8.lt_irrefl _))
      simp [hlt, hne]
    · by_cases he : c = b
      · subst he
        cases hE : endL t with
        | some e =>
          rw [hE] at ih
          simp [Op.bytesLess, ih, UInt8.lt_irrefl]
        | none =>
          rw [hE] at ih
          by_cases h255 : c = 255
          · subst h255; simp [ih, UInt8.lt_irrefl]
          · have h1 : c < c + 1 := (u8_lt_succ h255).2 (.inr rfl)
            simp [Op.bytesLess, ih, UInt8.lt_irrefl, h255, h1]
      · have hne : (b == c) = false := beq_eq_false_iff_ne.2 fun e => he e.symm
        have hne' : (c == b) = false := beq_eq_false_iff_ne.2 he
        simp only [hne, Bool.false_and, hlt, decide_false, hne', Bool.or_self, Bool.not_false, Bool.true_and]
        cases hE : endL t with
        | some e => simp [Op.bytesLess, hlt, hne']
        | none =>
          by_cases h255 : b = 255
          · exfalso
            subst h255
            have h1 := UInt8.not_lt.1 hlt
            have h2 : c ≤ 255 := UInt8.le_iff_toNat_le.2 (by have := c.toNat_lt; show c.toNat ≤ 255; omega)
            exact he (UInt8.le_antisymm h2 h1)
          · have h1 : ¬ c < b + 1 := fun h => by
              rcases (u8_lt_succ h255).1 h with h | h
              · exact hlt h
              · exact he h
            simp [h255, Op.bytesLess, h1, bl_nil]
theorem endL_ff : ∀ n : Nat, endL (List.replicate n 255) = none
  | 0 => rfl
  | n + 1 => by rw [List.replicate_succ, endL, endL_ff n]; rfl
theorem endL_at {b : UInt8} (hb : b ≠ 255) (n : Nat) : ∀ a : List UInt8, endL (a ++ b :: List.replicate n 255) = some (a ++ [b + 1])
  | [] => by rw [List.nil_append, endL, endL_ff]; simp [hb]
  | x :: a => by rw [List.cons_append, endL, endL_at hb n a]; rfl
end Go.Proofs.YtechahocffcbpaaGreatDoor
namespace Go.Proofs.YtechahocffcbpaaGreatDoor
open Go.RowKit
set_option linter.unusedVariables false
set_option linter.unusedSimpArgs false
abbrev inV (lo hi : ByteArray) (op : Bool) : Value := .agg #[.string lo, .string hi, .bool op]
theorem ends_any (w : World) (lo hi : ByteArray) (op : Bool) (k : ByteArray) : Calls Tryz.prog 172 #[inV lo hi op, .string k] w fun e w' => e = .returned (.bool (endI hi op k)) ∧ Ext w w' := by
  cases op
  · go_enter Tryz.func172, Tryz.ntmps172
    go_wp2_with fail
    go_ret
    exact ⟨rfl, (Ext.refl w).alloc _ _⟩
  · go_enter Tryz.func172, Tryz.ntmps172
    go_wp2_with fail
    go_ret
    exact ⟨rfl, (Ext.refl w).alloc _ _⟩
structure LeafC (At : World → Prop) (nv : Value) (es : List Ent) : Prop where
  ext : ∀ {W W'}, At W → Ext W W' → At W'
  ptr : ∃ p, nv = .pointer p
  height : ∀ W, At W → Calls Tryz.prog 69 #[nv] W fun e w' => e = .returned (.int .i64 0) ∧ W = w'
  size : ∀ W, At W → Calls Tryz.prog 73 #[nv] W fun e w' => e = .returned (.int .i64 es.length) ∧ ∃ q, w' = W.drewN q
  kids : ∀ W, At W → Calls Tryz.prog 70 #[nv] W fun e w' => e = .returned (.slice none 0 0) ∧ W = w'
  entry : ∀ W, At W → ∀ (i : Nat) (e : Ent), es[i]? = some e → Calls Tryz.prog 75 #[nv, .int .i64 i] W (EntryPost e.1 e.2 W)
  none : ∀ W, At W → ∀ i : Int, (i < 0 ∨ es.length ≤ i) → Calls Tryz.prog 75 #[nv, .int .i64 i] W fun e w' => e = .returned (.tuple #[aggE ByteArray.empty zeroV Sl.none Sl.none, .bool false]) ∧ Ext W w'
  sorted : Sorted es
  few : es.length ≤ 8
def NodeAt (F : Nat → Prop) (h : Nat) (t : PT h) (W : World) : Prop := IsN W F h t ∧ ∀ b, F b → b < W.heap.size
theorem NodeAt.ext {F : Nat → Prop} {h : Nat} {t : PT h} {W W' : World} (a : NodeAt F h t W) (k : Ext W W') : NodeAt F h t W' := ⟨a.1.agree (k.agree a.2), fun b hb => Nat.lt_of_lt_of_le (a.2 b hb) k.size⟩
theorem NodeAt.lt {F : Nat → Prop} {h : Nat} {t : PT h} {W : World} (a : NodeAt F h t W) : IsN W (Lt W.heap.size) h t := a.1.mono a.2
theorem leafC_node {F : Nat → Prop} {t : PT 0} (ok : OkT 0 t) (hs : Sorted (ents 0 t)) : LeafC (NodeAt F 0 t) (ptr 0 t) (ents 0 t) where
  ext := NodeAt.ext
  ptr := ⟨_, rfl⟩
  height W a := height_any a.1
  size W a := size_any a.1 (Nat.le_trans (show (ents 0 t).length ≤ 8 from ok) (by decide))
  kids W a := kids_leaf a.1
  entry W a i e h := entry_any a.lt h
  none W a i h := entry_none a.lt h
  sorted := hs
  few := ok
theorem leafC_nil : LeafC (fun _ => True) (.pointer none) [] where
  ext _ _ := trivial
  ptr := ⟨_, rfl⟩
  height W _ := height_nil W
  size W _ := (size_nil W).mono fun e w' ⟨h1, h2⟩ => ⟨h1, 0, h2.symm⟩
  kids W _ := kids_nil W
  entry W _ i e h := by simp at h
  none W _ i _ := entry_nil W i
  sorted := List.Pairwise.nil
  few := by simp
/-- The closure of below. -/
theorem below1_any {W : World} {nv : Value} {b1 b2 : Nat} {k k' : ByteArray} {v : Val} {i : Nat} (h1 : W.cell? ⟨b1, 0, none⟩ = some nv) (h2 : W.cell? ⟨b2, 0, none⟩ = some (.string k))
    (hp : ∃ p, nv = .pointer p) (hc : Calls Tryz.prog 75 #[nv, .int .i64 i] W (EntryPost k' v W)) :
    Calls Tryz.prog 206 #[.int .i64 i, .pointer (some ⟨b1, 0, none⟩), .pointer (some ⟨b2, 0, none⟩)] W fun e w' => e = .returned (.bool !(klt k' k)) ∧ Ext W w' := by
  obtain ⟨p, rfl⟩ := hp
  have hb2 := World.block_lt_of_cell? W _ h2
  go_enter Tryz.func206, Tryz.ntmps206
  go_wp2_with fail
  refine hc.mono ?_
  rintro e w1 ⟨sl, so, rfl, hx, -⟩
  have q2 := (hx.cell hb2).trans h2
  have l2 : b2 < w1.heap.size := Nat.lt_of_lt_of_le hb2 hx.size
  have HX := Lib.hid hx
  clear hc hx h2
  go_wp2
  go_ret
  exact ⟨rfl, HX.out.alloc _ _⟩
theorem below_any {At : World → Prop} {nv : Value} {es : List Ent} (hc : LeafC At nv es) {w : World} (hw : At w) (k : ByteArray) : Calls Tryz.prog 191 #[nv, .string k] w fun e w' => e = .returned (.int .i64 (posE es k)) ∧ Ext w w' := by
  obtain ⟨pp, rfl⟩ := hc.ptr
  have hl := hc.few
  have hsr : ∀ W, Ext w W → W.cell? ⟨w.heap.size, 0, none⟩ = some (.pointer pp) → W.cell? ⟨w.heap.size + 1, 0, none⟩ = some (.string k) → Calls Tryz.prog 72 #[.int .i64 es.length, .func (.func 206) #[] #[.pointer (some ⟨w.heap.size, 0, none⟩), .pointer (some ⟨w.heap.size + 1, 0, none⟩)]] W (SearchPost es.length (fun i => !(klt ((es[i]?.map Prod.fst).getD ByteArray.empty) k)) W) := by
    intro W hW c1 c2
    refine search_any 206 _ _ es.length _ W (enters_of Tryz.func206 (by kernel_rfl) rfl) (by omega) ?_ ?_
    · intro i W' hi hW'
      obtain ⟨x, hx⟩ : ∃ x, es[i]? = some x := ⟨_, List.getElem?_eq_getElem hi⟩
      rw [hx]
      exact below1_any ((hW'.cell (World.block_lt_of_cell? W _ c1)).trans c1) ((hW'.cell (World.block_lt_of_cell? W _ c2)).trans c2) ⟨_, rfl⟩ (hc.entry W' (hc.ext (hc.ext hw hW) hW') i x hx)
    · intro i j hij hj hpi
      by_cases hij' : i = j
      · subst hij'; exact hpi
      · obtain ⟨x, hx⟩ : ∃ x, es[i]? = some x := ⟨_, List.getElem?_eq_getElem (by omega)⟩
        obtain ⟨y, hy⟩ : ∃ y, es[j]? = some y := ⟨_, List.getElem?_eq_getElem hj⟩
        have hxy := sorted_lt hc.sorted (i := i) (j := j) (by omega) hx hy
        rw [hx] at hpi; rw [hy]
        simp only [Option.map_some, Option.getD_some, Bool.not_eq_true'] at hpi ⊢
        cases hyk : klt y.1 k
        · rfl
        · have := klt_trans hxy hyk
          rw [hpi] at this; cases this
  have HC := Lib.hid hc
  have HSR := Lib.hid hsr
  have HW := Lib.hid hw
  clear hc hsr hw
  go_enter Tryz.func191, Tryz.ntmps191
  go_wp2_with fail
  generalize hW0 : World.alloc _ _ = W0
  obtain ⟨hx0, hz0, hb0, hb1⟩ := two_blocks w _ _ _ _ W0 hW0
  have q0 : W0.cell? ⟨w.heap.size, 0, none⟩ = some (.pointer pp) := hb0.cell 0
  have HX0 := Lib.hid hx0
  have HB0 := Lib.hid hb0
  have HB1 := Lib.hid hb1
  clear hW0 hb0 hb1 hx0 hz0
  refine (HC.out.size W0 (HC.out.ext HW.out HX0.out)).mono ?_
  rintro e w1 ⟨rfl, q, rfl⟩
  clear q0
  go_wp2_with fail
  refine (HSR.out _ (HX0.out.drewN q) (HB0.out.cell 0) (HB1.out.cell 0)).mono ?_
  rintro e w1 ⟨p, rfl, hp, hlo, hhi, he1⟩
  have hpos : posE es k = p := posE_of hp (fun i e hi he => by
      have : (!(klt ((es[i]?.map Prod.fst).getD ByteArray.empty) k)) = false := hlo i hi
      rw [he] at this
      simpa using this) (fun e he => by
      have : (!(klt ((es[p]?.map Prod.fst).getD ByteArray.empty) k)) = true := hhi p (Nat.le_refl _) (List.getElem?_eq_some_iff.1 he).1
      rw [he] at this
      simpa using this)
  have HE := Lib.hid ((HX0.out.drewN q).trans he1)
  have HP := Lib.hid hpos
  clear hlo hhi hpos he1
  go_wp2_with fail
  go_ret
  exact ⟨by rw [HP.out]; rfl, HE.out⟩
theorem kid_ne {h : Nat} {t : PT (h + 1)} (ok : OkT (h + 1) t) {kid : PT h} (hk : kid ∈ t.2) : ents h kid ≠ [] := by
  have h1 := ok.2.2 kid hk
  have := ents_pos h kid h1.1 (by omega)
  intro e; rw [e] at this; simp at this
def TreeAt (F : Nat → Prop) (T : RT) (W : World) : Prop := IsT W F T ∧ ∀ b, F b → b < W.heap.size
theorem TreeAt.ext {F : Nat → Prop} {T : RT} {W W' : World} (a : TreeAt F T W) (k : Ext W W') : TreeAt F T W' := ⟨a.1.agree (k.agree a.2), fun b hb => Nat.lt_of_lt_of_le (a.2 b hb) k.size⟩
end Go.Proofs.YtechahocffcbpaaGreatDoor
namespace Go.Proofs.YtechahocffcbpaaGreatDoor
open Go.RowKit Go.Shelf
set_option linter.unusedVariables false
set_option linter.unusedSimpArgs false
attribute [local go_sem] Oper.semAt_some
abbrev encE (x : LE) : Array Value := #[.string x.k, aggV x.v x.sl x.so]
structure ScanG (all : List Ent) (pre : List LE) (x : LE) (W0 W1 : World) : Prop where
  at_ : all[pre.length]? = some x.ent
  pre_ : pre.map LE.ent = all.take pre.length
  val : RV W1 (In W0.heap.size W1.heap.size) x.v x.sl x.so
  key : x.k.size ≤ maxLen
def WalkPost (lo hi : ByteArray) (op : Bool) (es all : List Ent) (pre : List LE) (J : List LE → (Nat → Prop) → World → Prop) (Jx : List LE → World → Prop) (C : Nat → Prop) (W : World) (e : Ending) (W' : World) : Prop :=
  (∃ (new : List LE) (C' : Nat → Prop) (W0 : World), (e = .returned (.bool true) ∨ (e = .returned (.bool false) ∧ ∃ x ∈ es, endI hi op x.1 = true)) ∧ J (pre ++ new) C' W0 ∧ Ext W0 W' ∧ new.map LE.ent = rangeE lo hi op es ∧ St C W W' ∧ ∀ b, C' b → C b ∨ W.heap.size ≤ b) ∨
  (e = .returned (.bool false) ∧ St C W W' ∧ ∃ pre' W0, Jx pre' W0 ∧ Ext W0 W' ∧ pre'.map LE.ent <+: all)
theorem scanG_next {all rest : List Ent} {pre new : List LE} {A : List Ent} {lo hi : ByteArray} {op : Bool} {x : LE} {B : List Ent} (hall : all = pre.map LE.ent ++ (rangeE lo hi op (A ++ x.ent :: B) ++ rest)) (hn : new.map LE.ent = rangeE lo hi op A) (h1 : klt x.k lo = false) (h2 : endI hi op x.k = false) :
    all[(pre ++ new).length]? = some x.ent ∧ (pre ++ new).map LE.ent = all.take (pre ++ new).length ∧ (new ++ [x]).map LE.ent = rangeE lo hi op (A ++ [x.ent]) := by
  have e1 : rangeE lo hi op (A ++ x.ent :: B) = rangeE lo hi op A ++ (x.ent :: rangeE lo hi op B) := by
    rw [show A ++ x.ent :: B = A ++ ([x.ent] ++ B) from rfl, rangeE_app, rangeE_app, rangeE_one (e := x.ent) h1 h2]; rfl
  rw [e1, ← hn] at hall
  have e2 : all = (pre ++ new).map LE.ent ++ (x.ent :: (rangeE lo hi op B ++ rest)) := by rw [hall]; simp
  have hl : (pre ++ new).length = ((pre ++ new).map LE.ent).length := by simp
  refine ⟨?_, ?_, ?_⟩
  · rw [e2, hl, List.getElem?_append_right (Nat.le_refl _), Nat.sub_self]; rfl
  · rw [e2, hl, List.take_left]
  · rw [List.map_append, hn, rangeE_app, List.map_cons, List.map_nil, rangeE_one (e := x.ent) h1 h2]
theorem rangeE_rest {lo hi : ByteArray} {op : Bool} {es : List Ent} (hs : Sorted es) {i : Nat} {x : Ent} (hx : es[i]? = some x) (he : endI hi op x.1 = true) : rangeE lo hi op (es.take i) = rangeE lo hi op es := by
  have hd : es.drop i = x :: es.drop (i + 1) := by
    obtain ⟨h1, rfl⟩ := List.getElem?_eq_some_iff.1 hx
    exact List.drop_eq_getElem_cons h1
  conv => rhs; rw [← List.take_append_drop i es]
  rw [rangeE_app, rangeE_above (es := es.drop i), List.append_nil]
  intro e hem
  have hsd : Sorted (es.drop i) := List.Pairwise.sublist (List.drop_sublist _ _) hs
  rw [hd] at hem hsd
  rcases List.mem_cons.1 hem with rfl | hem
  · exact he
  · exact endI_up he ((List.pairwise_cons.1 hsd).1 e hem)
theorem take_snoc_prefix {α : Type} {l : List α} {n : Nat} {x : α} (h : l[n]? = some x) : l.take n ++ [x] <+: l := by
  have e : l.take (n + 1) = l.take n ++ [x] := by rw [List.take_add_one, h]; rfl
  rw [← e]; exact List.take_prefix _ _
structure LeafS (lo hi : ByteArray) (op : Bool) (es : List Ent) (At : World → Prop) (pre : List LE) (J : List LE → (Nat → Prop) → World → Prop) (C : Nat → Prop) (W : World) (i : Nat) (new : List LE) (C' : Nat → Prop) (Wj wr : World) : Prop where
  j : J (pre ++ new) C' Wj
  ext : Ext Wj wr
  new_ : new.map LE.ent = rangeE lo hi op (es.take i)
  st : St C W wr
  sub : ∀ b, C' b → C b ∨ W.heap.size < b
  box : Blk wr W.heap.size 176 #[.string lo, .string hi, .bool op]
  at_ : At wr
theorem walkLeaf_any {At : World → Prop} {F : Nat → Prop} {nv : Value} {es : List Ent} (hc : LeafC At nv es) (hagr : ∀ W W', At W → Agree F W W' → W.heap.size ≤ W'.heap.size → At W') (hsm : ∀ e ∈ es, e.1.size ≤ maxLen) {lo hi : ByteArray} {op : Bool} {all rest : List Ent} {pre : List LE}
    {l : Nat} {J : List LE → (Nat → Prop) → World → Prop} {Jx : List LE → World → Prop} (hT : Takes Tryz.prog l encE (ScanG all) J Jx) {C : Nat → Prop} {W0 W : World} (hJ : J pre C W0) (hx : Ext W0 W) (hw : At W) (hF : ∀ b, F b → b < W.heap.size ∧ ¬ C b) (hall : all = pre.map LE.ent ++ (rangeE lo hi op es ++ rest)) :
    Calls Tryz.prog 170 #[nv, inV lo hi op, .func (.yield l) #[] #[]] W (WalkPost lo hi op es all pre J Jx C W) := by
  obtain ⟨pp, rfl⟩ := hc.ptr
  have hl := hc.few
  have hCl := hT.lt pre C W0 hJ
  have hx1 : Ext W (W.alloc (.cells #[.string lo, .string hi, .bool op] 176)) := (Ext.refl W).alloc _ _
  have hb1 := Blk.new W 176 #[.string lo, .string hi, .bool op]
  have hbe := below_any hc (hc.ext hw hx1) lo
  obtain ⟨hp1, hp2⟩ := pos_split es lo hc.sorted
  obtain ⟨p, hp⟩ : ∃ p, posE es lo = p := ⟨_, rfl⟩
  rw [hp] at hbe hp1 hp2
  have hple : p ≤ es.length := by rw [← hp]; exact posE_le _ _
  have q0 : (W.alloc (.cells #[.string lo, .string hi, .bool op] 176)).cell? ⟨W.heap.size, 0, none⟩ = some (.string lo) := hb1.cell 0
  have HC := Lib.hid hc
  have HAG := Lib.hid hagr
  have HSM := Lib.hid hsm
  have HT := Lib.hid hT
  have HJ := Lib.hid hJ
  have HX := Lib.hid hx
  have HW := Lib.hid hw
  have HF := Lib.hid hF
  have HALL := Lib.hid hall
  have HB1 := Lib.hid hb1
  have HBE := Lib.hid hbe
  have HP1 := Lib.hid hp1
  have HP2 := Lib.hid hp2
  have HX1 := Lib.hid hx1
  have HCL := Lib.hid hCl
  clear hc hagr hsm hT hJ hx hw hF hall hbe hp1 hp2 hp hb1 hx1 hCl
  refine (callsIn_wide (n := 5)).1 ?_
  refine callsIn_of_wp Tryz.func170 rfl trivial ?_ rfl
  simp only [Tryz.ntmps170, List.size_toArray, List.length_cons, List.length_nil, Nat.reduceAdd, Nat.reduceSub, Array.replicate_succ, Array.replicate_zero, List.push_toArray, List.append_toArray, List.nil_append, List.cons_append]
  gi_wp2_with fail
  refine ⟨trivial, ?_⟩
  refine (callsIn_wide.2 HBE.out).mono ?_
  rintro e w1 ⟨rfl, hx2⟩
  have HX2 := Lib.hid (HX1.out.trans hx2)
  have HB2 := Lib.hid (HB1.out.ext hx2)
  clear hx2 q0 HBE
  gi_wp2_with fail
  gi_loopw [7] (fun v wr => ∃ (i : Nat) (new : List LE) (C' : Nat → Prop) (Wj : World), v = .int .i64 i ∧ p ≤ i ∧ i ≤ es.length ∧ LeafS lo hi op es At pre J C W i new C' Wj wr) (fun v _ => es.length - (intOf v).toNat)
  case atStart => exact ⟨p, [], C, W0, rfl, Nat.le_refl _, hple, ⟨by rw [List.append_nil]; exact HJ.out, HX.out.trans HX2.out, by rw [rangeE_below HP1.out]; rfl, HX2.out.st _, fun b hb => .inl hb, HB2.out, HC.out.ext HW.out HX2.out⟩⟩
  case round =>
    obtain ⟨i, new, C', Wj, rfl, hpi, hil, hS⟩ := hrel
    have HS := Lib.hid hS
    have hsz := HC.out.size wr hS.at_
    have HSZ := Lib.hid hsz
    clear hS hsz
    gi_wp2_with fail
    refine ⟨trivial, ?_⟩
    refine (callsIn_wide.2 HSZ.out).mono ?_
    rintro e w2 ⟨rfl, q, rfl⟩
    have hxq : Ext wr (wr.drewN q) := (Ext.refl wr).drewN q
    by_cases hlt : i < es.length
    · have g1 : (i : Int) < (es.length : Int) := by omega
      have g1' : decide ((i : Int) < (es.length : Int)) = true := decide_eq_true g1
      obtain ⟨x, hxi⟩ : ∃ x, es[i]? = some x := ⟨_, List.getElem?_eq_getElem hlt⟩
      have hen := HC.out.entry (wr.drewN q) (HC.out.ext HS.out.at_ hxq) i x hxi
      have HEN := Lib.hid hen
      have HXI := Lib.hid hxi
      clear hen hxi
      gi_wp2_with fail
      refine ⟨trivial, ?_⟩
      refine (callsIn_wide.2 HEN.out).mono ?_
      rintro e w3 ⟨sl, so, rfl, hx3, hrv⟩
      have hx4 : Ext w3 (w3.alloc (.cells #[.string x.1, .int .i64 x.2.kind, .bool x.2.b, .int .i64 x.2.i, .string x.2.t, .slice sl.a x.2.l.length sl.c, .slice so.a x.2.ok.length so.c] 64)) := (Ext.refl w3).alloc _ _
      have hb4 := Blk.new w3 64 #[.string x.1, .int .i64 x.2.kind, .bool x.2.b, .int .i64 x.2.i, .string x.2.t, .slice sl.a x.2.l.length sl.c, .slice so.a x.2.ok.length so.c]
      have HX4 := Lib.hid ((hxq.trans hx3).trans hx4)
      have HX34 := Lib.hid hx4
      have HB4 := Lib.hid hb4
      have HRV := Lib.hid hrv
      have hbx := HS.out.box.ext (hxq.trans hx3)
      have qb0 : w3.cell? ⟨W.heap.size, 0, none⟩ = some (.string lo) := hbx.cell 0
      have qb1 : w3.cell? ⟨W.heap.size, 1, none⟩ = some (.string hi) := hbx.cell 1
      have qb2 : w3.cell? ⟨W.heap.size, 2, none⟩ = some (.bool op) := hbx.cell 2
      have lb := hbx.lt
      clear hx3 hx4 hb4 hrv hbx
      gi_wp2_with fail
      refine ⟨trivial, ?_⟩
      refine (callsIn_wide.2 (ends_any _ lo hi op x.1)).mono ?_
      rintro e w5 ⟨rfl, hx5⟩
      have hX5 := HX4.out.trans hx5
      have hb5 := HB4.out.ext hx5
      obtain ⟨c0, c1, c2, c3, c4, c5, c6⟩ := hb5.c7
      have hat5 := HC.out.ext HS.out.at_ hX5
      have hbx5 := HS.out.box.ext hX5
      have hs4 := HX34.out.size
      have hs5 := hx5.size
      have hsj := HS.out.ext.size
      have hrv5 : RV w5 (In wr.heap.size w5.heap.size) x.2 sl so := ((HRV.out.agree (HX34.out.agree fun b hb => hb.2)).agree (hx5.agree fun b hb => by have := hb.2; omega)).mono fun b hb => ⟨hb.1, by have := hb.2; omega⟩
      have HX5 := Lib.hid hX5
      have HAT := Lib.hid hat5
      have HBX := Lib.hid hbx5
      have HRV5 := Lib.hid hrv5
      clear hx5 hX5 hb5 hat5 hbx5 hrv5 HRV HX4 HX34 HB4 qb0 qb1 qb2
      cases hend : endI hi op x.1 with
      | true =>
        gi_wp2_with fail
        refine ⟨fun _ h => absurd h (by simp), ?_⟩
        gi_wp2_with fail
        go_ret
        refine .inl ⟨new, C', Wj, .inr ⟨rfl, x, List.mem_of_getElem? HXI.out, hend⟩, HS.out.j, HS.out.ext.trans HX5.out, ?_, HS.out.st.ext HX5.out, fun b hb => (HS.out.sub b hb).imp_right Nat.le_of_lt⟩
        rw [HS.out.new_, rangeE_rest HC.out.sorted HXI.out hend]
      | false =>
        have hge : klt x.1 lo = false := HP2.out x (by
          obtain ⟨h1, rfl⟩ := List.getElem?_eq_some_iff.1 HXI.out
          rw [List.mem_iff_getElem?]
          exact ⟨i - p, by rw [List.getElem?_drop, Nat.add_sub_cancel' hpi]; exact HXI.out⟩)
        have hes : es = es.take i ++ x :: es.drop (i + 1) := by
          obtain ⟨h1, h2⟩ := List.getElem?_eq_some_iff.1 HXI.out
          conv => lhs; rw [← List.take_append_drop i es, List.drop_eq_getElem_cons h1, h2]
        obtain ⟨n1, n2, n3⟩ := scanG_next (x := ⟨x.1, x.2, sl, so⟩) (A := es.take i) (B := es.drop (i + 1)) (all := all) (rest := rest) (pre := pre) (by show all = pre.map LE.ent ++ (rangeE lo hi op (es.take i ++ x :: es.drop (i + 1)) ++ rest); rw [← hes]; exact HALL.out) HS.out.new_ hge hend
        have hy := HT.out.take (pre ++ new) C' ⟨x.1, x.2, sl, so⟩ Wj w5 HS.out.j (HS.out.ext.trans HX5.out) ⟨n1, n2, HRV5.out.mono fun b hb => ⟨by have := hb.1; omega, hb.2⟩, HSM.out x (List.mem_of_getElem? HXI.out)⟩
        obtain ⟨fn, tmps, assign, body, hy, hR⟩ := hy
        have HR := Lib.hid hR
        have HN1 := Lib.hid n1
        have HN2 := Lib.hid n2
        have HN3 := Lib.hid n3
        have HES := Lib.hid hes
        clear hR n1 n2 n3 hes
        dsimp only [encE] at hy
        gi_wp2_with fail
        refine HR.out.mono ?_
        rintro e w6 (⟨rfl, C6, hj6, hst6, hsub6⟩ | ⟨rfl, hjx, hst6⟩)
        · have hj6' : J (pre ++ (new ++ [⟨x.1, x.2, sl, so⟩])) C6 w6 := by rw [← List.append_assoc]; exact hj6
          have hWC : ∀ b, b ≤ W.heap.size → C' b → C b := fun b hb h => by
            rcases HS.out.sub b h with h | h
            · exact h
            · omega
          have hWC0 : ¬ C' W.heap.size := fun h => by
            have h1 := HCL.out _ (hWC _ (Nat.le_refl _) h)
            have := HX.out.size; omega
          have HS6 := Lib.hid (show LeafS lo hi op es At pre J C W (i + 1) (new ++ [⟨x.1, x.2, sl, so⟩]) C6 w6 w6 from
            ⟨hj6', Ext.refl _, by rw [HN3.out, List.take_add_one, HXI.out]; rfl, (HS.out.st.ext HX5.out).then hst6 (fun b hb h => hWC b (Nat.le_of_lt hb) h), fun b hb => by
              rcases hsub6 b hb with h | h
              · exact HS.out.sub b h
              · exact .inr (by omega), hst6.blk HBX.out hWC0, HAG.out w5 w6 HAT.out (hst6.agree.mono fun b hb => ⟨by have := (HF.out b hb).1; omega, fun h => (HF.out b hb).2 (hWC b (Nat.le_of_lt (HF.out b hb).1) h)⟩) hst6.size⟩)
          clear hj6 hst6 hsub6 hj6' hWC hWC0 hy
          gi_wp2_with fail
          go_roundw
          case rel => exact ⟨i + 1, _, C6, w6, by go_num, by omega, hlt, HS6.out⟩
          case measure => simp [intOf]; omega
        · gi_wp2_with fail
          go_ret
          have hst : St C W w6 := (HS.out.st.ext HX5.out).then hst6 fun b hb h => by
            rcases HS.out.sub b h with h | h
            · exact h
            · omega
          exact .inr ⟨rfl, hst, _, w6, hjx, Ext.refl _, by
            rw [List.map_append, HN2.out]
            exact take_snoc_prefix HN1.out⟩
    · obtain rfl : i = es.length := by omega
      gi_wp2_with fail
      go_ret
      refine .inl ⟨new, C', Wj, .inl rfl, HS.out.j, HS.out.ext.trans hxq, ?_, HS.out.st.ext hxq, fun b hb => (HS.out.sub b hb).imp_right Nat.le_of_lt⟩
      rw [HS.out.new_, List.take_length]
theorem keys_small {w : World} {F : Nat → Prop} : ∀ {h : Nat} {t : PT h}, IsN w F h t → ∀ e ∈ ents h t, e.1.size ≤ maxLen
  | 0, t, ⟨_, s, xs, _, h3, h4⟩, e, he => by
    have he : e ∈ t.2 := he
    rw [← h4] at he
    obtain ⟨x, hx, rfl⟩ := List.mem_map.1 he
    exact (h3.vals x hx).2
  | h + 1, t, ⟨_, s, _, _, h4⟩, e, he => by
    have he : e ∈ t.2.flatMap (ents h) := he
    obtain ⟨k, hk, he⟩ := List.mem_flatMap.1 he
    exact keys_small (h4 k hk) e he
theorem WalkPost.from {lo hi : ByteArray} {op : Bool} {es all : List Ent} {pre : List LE} {J : List LE → (Nat → Prop) → World → Prop} {Jx : List LE → World → Prop} {C : Nat → Prop} {W W1 : World} {e : Ending} {W' : World} (h : WalkPost lo hi op es all pre J Jx C W1 e W') (hx : Ext W W1) : WalkPost lo hi op es all pre J Jx C W e W' := by
  rcases h with ⟨new, C', W0, h1, h2, h3, h4, h5, h6⟩ | h
  · exact .inl ⟨new, C', W0, h1, h2, h3, h4, (hx.st C).trans h5, fun b hb => (h6 b hb).imp_right fun h => Nat.le_trans hx.size h⟩
  · exact .inr ⟨h.1, (hx.st C).trans h.2.1, h.2.2⟩
theorem WalkPost.bool {lo hi : ByteArray} {op : Bool} {es all : List Ent} {pre : List LE} {J : List LE → (Nat → Prop) → World → Prop} {Jx : List LE → World → Prop} {C : Nat → Prop} {W : World} {e : Ending} {W' : World} (h : WalkPost lo hi op es all pre J Jx C W e W') : ∃ b, e = .returned (.bool b) := by
  rcases h with ⟨new, C', W0, h1 | h1, _⟩ | h
  · exact ⟨_, h1⟩
  · exact ⟨_, h1.1⟩
  · exact ⟨_, h.1⟩
theorem walk_leaf {At : World → Prop} {F : Nat → Prop} {nv : Value} {es : List Ent} (hc : LeafC At nv es) (hagr : ∀ W W', At W → Agree F W W' → W.heap.size ≤ W'.heap.size → At W') (hsm : ∀ e ∈ es, e.1.size ≤ maxLen) {lo hi : ByteArray} {op : Bool} {all rest : List Ent} {pre : List LE}
    {l : Nat} {J : List LE → (Nat → Prop) → World → Prop} {Jx : List LE → World → Prop} (hT : Takes Tryz.prog l encE (ScanG all) J Jx) {C : Nat → Prop} {W0 W : World} (hJ : J pre C W0) (hx : Ext W0 W) (hw : At W) (hF : ∀ b, F b → b < W.heap.size ∧ ¬ C b) (hall : all = pre.map LE.ent ++ (rangeE lo hi op es ++ rest)) :
    Calls Tryz.prog 121 #[nv, inV lo hi op, .func (.yield l) #[] #[]] W (WalkPost lo hi op es all pre J Jx C W) := by
  have hx1 : Ext W (W.alloc (.cells #[.string lo, .string hi, .bool op] 176)) := (Ext.refl W).alloc _ _
  have hh := hc.height _ (hc.ext hw hx1)
  have hwl := walkLeaf_any hc hagr hsm hT hJ (hx.trans hx1) (hc.ext hw hx1) (fun b hb => ⟨Nat.lt_of_lt_of_le (hF b hb).1 hx1.size, (hF b hb).2⟩) hall
  obtain ⟨pp, rfl⟩ := hc.ptr
  have HWL := Lib.hid hwl
  have HX1 := Lib.hid hx1
  clear hc hagr hsm hT hJ hx hw hF hall hwl hx1
  go_enter Tryz.func121, Tryz.ntmps121
  go_wp2_with fail
  refine hh.mono ?_
  rintro e w1 ⟨rfl, rfl⟩
  go_wp2_with fail
  refine HWL.out.mono ?_
  rintro e w2 hp
  obtain ⟨b, rfl⟩ := hp.bool
  have HP := Lib.hid (hp.from HX1.out)
  clear hp
  go_wp2_with fail
  go_ret
  exact HP.out
structure NodeS (lo hi : ByteArray) (op : Bool) (F : Nat → Prop) (h : Nat) (t : PT (h + 1)) (pre : List LE) (J : List LE → (Nat → Prop) → World → Prop) (C : Nat → Prop) (W w3 : World) (g : Nat) (j : Nat) (new : List LE) (C' : Nat → Prop) (Wj wr : World) : Prop where
  j_ : J (pre ++ new) C' Wj
  ext : Ext Wj wr
  new_ : new.map LE.ent = rangeE lo hi op ((t.2.take j).flatMap (ents h))
  st : St C W wr
  sub : ∀ b, C' b → C b ∨ w3.heap.size ≤ b
  big : w3.heap.size ≤ wr.heap.size
  box : Blk wr W.heap.size 176 #[.string lo, .string hi, .bool op]
  rows : ∀ o, wr.cell? ⟨g, o, none⟩ = w3.cell? ⟨g, o, none⟩
  at_ : NodeAt F (h + 1) t wr
theorem walk_succ {F : Nat → Prop} {lo hi : ByteArray} {op : Bool} {all : List Ent} {l : Nat} {J : List LE → (Nat → Prop) → World → Prop} {Jx : List LE → World → Prop} (hT : Takes Tryz.prog l encE (ScanG all) J Jx) {h : Nat}
    (ih : ∀ (t : PT h) (pre : List LE) (rest : List Ent) (C : Nat → Prop) (W0 W : World), J pre C W0 → Ext W0 W → NodeAt F h t W → (∀ b, F b → ¬ C b) → OkT h t → Sorted (ents h t) → (ents h t).length ≤ 1000000 → all = pre.map LE.ent ++ (rangeE lo hi op (ents h t) ++ rest) →
      Calls Tryz.prog 121 #[ptr h t, inV lo hi op, .func (.yield l) #[] #[]] W (WalkPost lo hi op (ents h t) all pre J Jx C W))
    {t : PT (h + 1)} {pre : List LE} {rest : List Ent} {C : Nat → Prop} {W0 W : World} (hJ : J pre C W0) (hx : Ext W0 W) (hn : NodeAt F (h + 1) t W) (hF : ∀ b, F b → ¬ C b) (ok : OkT (h + 1) t) (hs : Sorted (ents (h + 1) t)) (hl : (ents (h + 1) t).length ≤ 1000000) (hall : all = pre.map LE.ent ++ (rangeE lo hi op (ents (h + 1) t) ++ rest)) :
    Calls Tryz.prog 121 #[ptr (h + 1) t, inV lo hi op, .func (.yield l) #[] #[]] W (WalkPost lo hi op (ents (h + 1) t) all pre J Jx C W) := by
  have hlen8 := ok.2.1
  have hlen2 := ok.1
  have hCl := hT.lt pre C W0 hJ
  have hx1 : Ext W (W.alloc (.cells #[.string lo, .string hi, .bool op] 176)) := (Ext.refl W).alloc _ _
  have hb1 := Blk.new W 176 #[.string lo, .string hi, .bool op]
  have hh := height_any (hn.ext hx1).1
  have hkc := kids_any (hn.ext hx1).1 (by omega)
  have hhm : h + 1 < 1000000 := Nat.lt_of_lt_of_le (height_lt (h + 1) t ok (by show 1 ≤ t.2.length; omega)) hl
  have hne : (((h + 1 : Nat) : Int) == 0) = false := beq_eq_false_iff_ne.2 (by omega)
  have hne' : ((h : Int) + 1 == 0) = false := beq_eq_false_iff_ne.2 (by omega)
  have HT := Lib.hid hT
  have HIH := Lib.hid ih
  have HJ := Lib.hid hJ
  have HX := Lib.hid hx
  have HN := Lib.hid hn
  have HF := Lib.hid hF
  have HOK := Lib.hid ok
  have HS := Lib.hid hs
  have HL := Lib.hid hl
  have HALL := Lib.hid hall
  have HX1 := Lib.hid hx1
  have HB1 := Lib.hid hb1
  have HCL := Lib.hid hCl
  clear hT ih hJ hx hn hF ok hs hl hall hx1 hb1 hCl
  refine (callsIn_wide (n := 5)).1 ?_
  refine callsIn_of_wp Tryz.func121 rfl trivial ?_ rfl
  simp only [Tryz.ntmps121, List.size_toArray, List.length_cons, List.length_nil, Nat.reduceAdd, Nat.reduceSub, Array.replicate_succ, Array.replicate_zero, List.push_toArray, List.append_toArray, List.nil_append, List.cons_append]
  gi_wp2_with fail
  refine ⟨trivial, ?_⟩
  refine (callsIn_wide.2 hh).mono ?_
  rintro e w1 ⟨rfl, rfl⟩
  gi_wp2_with fail
  refine ⟨trivial, ?_⟩
  refine (callsIn_wide.2 hkc).mono ?_
  rintro e w3 ⟨sk, rfl, hown, hx3⟩
  have hrd : Rd w3 (Lt w3.heap.size) 1 sk t.2.length (ptrs h t.2) := (Rd.of_own hown).mono fun i hi => hi.2
  obtain ⟨g, cap, rfl, hbg, hnc, hcm, hfil⟩ := own_block hown (by omega)
  have hgl := hfil.lt
  have hWg : W.heap.size < g := by simp at hbg; omega
  have HRD := Lib.hid hrd
  have HX3 := Lib.hid (HX1.out.trans hx3)
  have HB3 := Lib.hid (HB1.out.ext hx3)
  have hs3 := HX3.out.size
  have hs0 := HX.out.size
  clear hown hrd hx3 hfil hkc hh HB1 HX1
  gi_wp2_with fail
  gi_loopw [19] (fun v wr => ∃ (j : Nat) (new : List LE) (C' : Nat → Prop) (Wj : World), v = .int .i64 j ∧ j ≤ t.2.length ∧ NodeS lo hi op F h t pre J C W w3 g j new C' Wj wr) (fun v _ => t.2.length - (intOf v).toNat)
  case atStart => exact ⟨0, [], C, W0, rfl, Nat.zero_le _, ⟨by rw [List.append_nil]; exact HJ.out, HX.out.trans HX3.out, rfl, HX3.out.st _, fun b hb => .inl hb, Nat.le_refl _, HB3.out, fun _ => rfl, HN.out.ext HX3.out⟩⟩
  case round =>
    obtain ⟨j, new, C', Wj, rfl, hj, hS⟩ := hrel
    have HSN := Lib.hid hS
    clear hS
    by_cases hlt : j < t.2.length
    · obtain ⟨kid, hkid⟩ : ∃ kid, t.2[j]? = some kid := ⟨_, List.getElem?_eq_getElem hlt⟩
      obtain ⟨b, o', hba, -, -, -, hbc⟩ := HRD.out.ptr_at hkid
      obtain ⟨rfl, rfl⟩ : g = b ∧ 0 = o' := by simpa using hba
      have kc : wr.cell? ⟨g, j, none⟩ = some (ptr h kid) := by rw [HSN.out.rows]; simpa using hbc
      have hjl : (j : Int) < (t.2.length : Int) := by omega
      have hkm := List.mem_of_getElem? hkid
      have hkn : NodeAt F h kid wr := ⟨HSN.out.at_.1.2.choose_spec.2.2 kid hkm, HSN.out.at_.2⟩
      have hks : Sorted (ents h kid) := kid_sorted HS.out kid hkm
      have hmid := take_mid hkid
      have hent : ents (h + 1) t = (t.2.take j).flatMap (ents h) ++ (ents h kid ++ (t.2.drop (j + 1)).flatMap (ents h)) := by
        show t.2.flatMap (ents h) = _
        conv => lhs; rw [hmid]
        simp only [List.flatMap_append, List.flatMap_cons]
      have hlk : (ents h kid).length ≤ 1000000 := by have := HL.out; rw [hent] at this; simp only [List.length_append] at this; omega
      have hsnoc : (t.2.take (j + 1)).flatMap (ents h) = (t.2.take j).flatMap (ents h) ++ ents h kid := by rw [List.take_add_one, hkid]; simp
      have HLAST := Lib.hid (fun W1 (hW : Ext wr W1) => last_any (hkn.ext hW).1)
      have HFIRST := Lib.hid (fun W1 (hW : Ext wr W1) => first_any (hkn.ext hW).1)
      have hbox := HSN.out.box
      have HSS := Lib.hid (show ∀ W1, Ext wr W1 → W1.cell? ⟨W.heap.size, 0, none⟩ = some (.string lo) ∧ W1.cell? ⟨W.heap.size, 1, none⟩ = some (.string hi) ∧ W1.cell? ⟨W.heap.size, 2, none⟩ = some (.bool op) from fun W1 hW => ⟨(hbox.ext hW).cell 0, (hbox.ext hW).cell 1, (hbox.ext hW).cell 2⟩)
      have HKN := Lib.hid hkn
      have HKS := Lib.hid hks
      have HENT := Lib.hid hent
      have HSNOC := Lib.hid hsnoc
      clear hkid hba hbc hkn hks hmid hent hsnoc hbox
      cases hlb : klt (lastK (ents h kid)) lo with
      | true =>
        have hb1 : Op.bytesLess (lastK (ents h kid)).toList lo.toList = true := hlb
        gi_wp2_with fail
        refine wpIn_wide.2 ?_
        refine wp_region_held_drew (S := (fun w' => Ext wr w')) (by kernel_rfl) (((Ext.refl wr).drew)) (fun hHeld => ?_)
        refine heldT 0 (some 24) HSS hHeld ?_
        refine heldT 2 (some 26) HSS hHeld ?_
        refine heldT 3 (some 27) HSS hHeld ?_
        refine held_call (i := 1) (by kernel_rfl) rfl (by rfl) (fun K hK => ?_)
        go_simp
        (refine (HLAST.out _ hHeld).mono ?_; rintro e w5 ⟨rfl, rfl⟩)
        refine hK.out _ _ (hHeld) (fun hHeld => ?_)
        clear hK K
        try simp only [Act.put, List.setIfInBounds_toArray, List.set_cons_zero, List.set_cons_succ]
        refine heldT 4 (some 28) HSS hHeld ?_
        refine heldT 5 (some 23) HSS hHeld ?_
        refine wpAnyH_done (by kernel_rfl) ?_ _
        have HX5 := Lib.hid hHeld
        clear hHeld
        have HS6 := Lib.hid (show NodeS lo hi op F h t pre J C W w3 g (j + 1) new C' Wj wr.drew from
          ⟨HSN.out.j_, HSN.out.ext.trans HX5.out, by rw [HSN.out.new_, HSNOC.out, rangeE_app, rangeE_below (lt_of_last HKS.out hlb), List.append_nil], HSN.out.st.ext HX5.out, HSN.out.sub, by have := HX5.out.size; have := HSN.out.big; omega, HSN.out.box.ext HX5.out, fun o => (HX5.out.cell (by have := HSN.out.big; omega)).trans (HSN.out.rows o), HSN.out.at_.ext HX5.out⟩)
        generalize wr.drew = w6 at *
        gi_wp2_with fail
        go_roundw
        case rel => exact ⟨j + 1, new, C', Wj, by go_num, hlt, HS6.out⟩
        case measure => simp [intOf]; omega
      | false =>
        have hb1 : Op.bytesLess (lastK (ents h kid)).toList lo.toList = false := hlb
        gi_wp2_with fail
        refine wpIn_wide.2 ?_
        refine wp_region_held_drew (S := (fun w' => Ext wr w')) (by kernel_rfl) (((Ext.refl wr).drew)) (fun hHeld => ?_)
        refine heldT 0 (some 24) HSS hHeld ?_
        refine heldT 2 (some 26) HSS hHeld ?_
        refine heldT 3 (some 27) HSS hHeld ?_
        refine held_call (i := 1) (by kernel_rfl) rfl (by rfl) (fun K hK => ?_)
        go_simp
        (refine (HLAST.out _ hHeld).mono ?_; rintro e w5 ⟨rfl, rfl⟩)
        refine hK.out _ _ (hHeld) (fun hHeld => ?_)
        clear hK K
        try simp only [Act.put, List.setIfInBounds_toArray, List.set_cons_zero, List.set_cons_succ]
        refine heldT 4 (some 28) HSS hHeld ?_
        refine heldT 5 (some 23) HSS hHeld ?_
        refine wpAnyH_done (by kernel_rfl) ?_ _
        cases hend : endI hi op (firstK (ents h kid)) with
        | true =>
          have HEND := Lib.hid (show ∀ W1, Calls Tryz.prog 172 #[inV lo hi op, .string (firstK (ents h kid))] W1 fun e w' => e = .returned (.bool true) ∧ Ext W1 w' from fun W1 => by have := ends_any W1 lo hi op (firstK (ents h kid)); rwa [hend] at this)
          gi_wp2_with fail
          refine wpIn_wide.2 ?_
          refine wp_region_held_drew (S := (fun w' => Ext wr w')) (by kernel_rfl) ((hHeld.drew)) (fun hHeld => ?_)
          refine heldT 0 (some 30) HSS hHeld ?_
          refine heldT 1 (some 31) HSS hHeld ?_
          refine held_call (i := 2) (by kernel_rfl) rfl (by rfl) (fun K hK => ?_)
          go_simp
          (refine (HFIRST.out _ hHeld).mono ?_; rintro e w6 ⟨rfl, rfl⟩)
          refine hK.out _ _ (hHeld) (fun hHeld => ?_)
          clear hK K
          try simp only [Act.put, List.setIfInBounds_toArray, List.set_cons_zero, List.set_cons_succ]
          refine held_call (i := 3) (by kernel_rfl) rfl (by rfl) (fun K hK => ?_)
          go_simp
          (refine (HEND.out _).mono ?_; rintro e w7 ⟨rfl, hx7⟩)
          refine hK.out _ _ (hHeld.trans hx7) (fun hHeld => ?_)
          clear hK K
          try simp only [Act.put, List.setIfInBounds_toArray, List.set_cons_zero, List.set_cons_succ]
          refine heldT 4 (some 29) HSS hHeld ?_
          refine wpAnyH_done (by kernel_rfl) ?_ _
          have HX7 := Lib.hid hHeld
          clear hHeld hx7
          gi_wp2_with fail
          go_ret
          have hne0 := kid_ne HOK.out hkm
          obtain ⟨x, hxm⟩ := List.exists_mem_of_ne_nil _ hne0
          have hxe := end_of_first HKS.out hend x hxm
          refine .inl ⟨new, C', Wj, .inr ⟨rfl, x, by rw [HENT.out]; simp [hxm], hxe⟩, HSN.out.j_, HSN.out.ext.trans HX7.out, ?_, HSN.out.st.ext HX7.out, fun b hb => (HSN.out.sub b hb).imp_right fun h => by omega⟩
          have hsd := HS.out
          rw [HENT.out] at hsd
          rw [HSN.out.new_, HENT.out, rangeE_app, rangeE_app, rangeE_above (end_of_first HKS.out hend), rangeE_behind (A := ents h kid) (sorted_app hsd).2.1 ⟨x, hxm, hxe⟩, List.append_nil, List.append_nil]
        | false =>
          have HEND := Lib.hid (show ∀ W1, Calls Tryz.prog 172 #[inV lo hi op, .string (firstK (ents h kid))] W1 fun e w' => e = .returned (.bool false) ∧ Ext W1 w' from fun W1 => by have := ends_any W1 lo hi op (firstK (ents h kid)); rwa [hend] at this)
          gi_wp2_with fail
          refine wpIn_wide.2 ?_
          refine wp_region_held_drew (S := (fun w' => Ext wr w')) (by kernel_rfl) ((hHeld.drew)) (fun hHeld => ?_)
          refine heldT 0 (some 30) HSS hHeld ?_
          refine heldT 1 (some 31) HSS hHeld ?_
          refine held_call (i := 2) (by kernel_rfl) rfl (by rfl) (fun K hK => ?_)
          go_simp
          (refine (HFIRST.out _ hHeld).mono ?_; rintro e w6 ⟨rfl, rfl⟩)
          refine hK.out _ _ (hHeld) (fun hHeld => ?_)
          clear hK K
          try simp only [Act.put, List.setIfInBounds_toArray, List.set_cons_zero, List.set_cons_succ]
          refine held_call (i := 3) (by kernel_rfl) rfl (by rfl) (fun K hK => ?_)
          go_simp
          (refine (HEND.out _).mono ?_; rintro e w7 ⟨rfl, hx7⟩)
          refine hK.out _ _ (hHeld.trans hx7) (fun hHeld => ?_)
          clear hK K
          try simp only [Act.put, List.setIfInBounds_toArray, List.set_cons_zero, List.set_cons_succ]
          refine heldT 4 (some 29) HSS hHeld ?_
          refine wpAnyH_done (by kernel_rfl) ?_ _
          have HX7 := Lib.hid hHeld
          obtain ⟨q0, q1, q2⟩ := HSS.out w7 hHeld
          have hFC : ∀ b, F b → ¬ C' b := fun b hb h => by
            rcases HSN.out.sub b h with h | h
            · exact HF.out b hb h
            · have := (HN.out.2 b hb); omega
          have hic := HIH.out kid (pre ++ new) (rangeE lo hi op ((t.2.drop (j + 1)).flatMap (ents h)) ++ rest) C' Wj w7 HSN.out.j_ (HSN.out.ext.trans HX7.out) (HKN.out.ext HX7.out) hFC (HOK.out.2.2 kid hkm).1 HKS.out hlk (by
            rw [HALL.out, HENT.out, List.map_append, HSN.out.new_, rangeE_app, rangeE_app]
            simp only [List.append_assoc])
          have HIC := Lib.hid hic
          have hs7 := HX7.out.size
          clear hHeld hx7 hFC hic
          gi_wp2_with fail
          refine ⟨trivial, ?_⟩
          refine (callsIn_wide.2 HIC.out).mono ?_
          rintro e w8 (⟨new', C8, W8, hb8, hj8, hx8, hn8, hst8, hsub8⟩ | ⟨rfl, hst8, pre', W8, hj8, hx8, hp8⟩)
          · have hst : St C W w8 := (HSN.out.st.ext HX7.out).then hst8 fun b hb h => by
              rcases HSN.out.sub b h with h | h
              · exact h
              · omega
            have hsub : ∀ b, C8 b → C b ∨ w3.heap.size ≤ b := fun b hb => by
              rcases hsub8 b hb with h | h
              · exact HSN.out.sub b h
              · exact .inr (by have := HSN.out.big; omega)
            have hj8' : J (pre ++ (new ++ new')) C8 W8 := by rw [← List.append_assoc]; exact hj8
            have hn8' : (new ++ new').map LE.ent = rangeE lo hi op ((t.2.take (j + 1)).flatMap (ents h)) := by rw [List.map_append, HSN.out.new_, hn8, HSNOC.out, rangeE_app]
            rcases hb8 with rfl | ⟨rfl, x, hxm, hxe⟩
            · have hnC : ∀ b, b < w3.heap.size → W.heap.size ≤ b → ¬ C' b := fun b h1 h2 h => by
                rcases HSN.out.sub b h with h | h
                · have := HCL.out b h; omega
                · omega
              have HS8 := Lib.hid (show NodeS lo hi op F h t pre J C W w3 g (j + 1) (new ++ new') C8 W8 w8 from
                ⟨hj8', hx8, hn8', hst, hsub, by have := hst8.size; have := HSN.out.big; omega, hst8.blk (HSN.out.box.ext HX7.out) (hnC _ (by omega) (Nat.le_refl _)),
                  fun o => (hst8.cell (by have := HSN.out.big; omega) (hnC _ hgl (by omega))).trans ((HX7.out.cell (by have := HSN.out.big; omega)).trans (HSN.out.rows o)),
                  ⟨(HSN.out.at_.ext HX7.out).1.agree (hst8.agree.mono fun b hb => ⟨by have := (HSN.out.at_.ext HX7.out).2 b hb; omega, fun h => by
                    rcases HSN.out.sub b h with h | h
                    · exact HF.out b hb h
                    · have := (HN.out.2 b hb); omega⟩), fun b hb => by have := hst8.size; have := HN.out.2 b hb; have := HSN.out.big; omega⟩⟩)
              clear hst hsub hj8' hn8' hj8 hx8 hn8 hst8 hsub8 hnC
              gi_wp2_with fail
              go_roundw
              case rel => exact ⟨j + 1, _, C8, W8, by go_num, hlt, HS8.out⟩
              case measure => simp [intOf]; omega
            · clear hst8 hsub8 hn8 hj8
              gi_wp2_with fail
              go_ret
              refine .inl ⟨new ++ new', C8, W8, .inr ⟨rfl, x, by rw [HENT.out]; simp [hxm], hxe⟩, hj8', hx8, ?_, hst, fun b hb => (hsub b hb).imp_right fun h => by omega⟩
              have hsd := HS.out
              rw [HENT.out] at hsd
              rw [hn8', HSNOC.out, HENT.out, rangeE_app, rangeE_app, rangeE_app, rangeE_behind (A := ents h kid) (sorted_app hsd).2.1 ⟨x, hxm, hxe⟩, List.append_nil]
          · gi_wp2_with fail
            go_ret
            exact .inr ⟨rfl, (HSN.out.st.ext HX7.out).then hst8 (fun b hb h => by
              rcases HSN.out.sub b h with h | h
              · exact h
              · omega), pre', W8, hj8, hx8, hp8⟩
    · obtain rfl : j = t.2.length := by omega
      gi_wp2_with fail
      go_ret
      refine .inl ⟨new, C', Wj, .inl rfl, HSN.out.j_, HSN.out.ext, ?_, HSN.out.st, fun b hb => (HSN.out.sub b hb).imp_right fun h => by omega⟩
      rw [HSN.out.new_, List.take_length]; rfl
theorem walk_any {F : Nat → Prop} {lo hi : ByteArray} {op : Bool} {all : List Ent} {l : Nat} {J : List LE → (Nat → Prop) → World → Prop} {Jx : List LE → World → Prop} (hT : Takes Tryz.prog l encE (ScanG all) J Jx) :
    ∀ (h : Nat) (t : PT h) (pre : List LE) (rest : List Ent) (C : Nat → Prop) (W0 W : World), J pre C W0 → Ext W0 W → NodeAt F h t W → (∀ b, F b → ¬ C b) → OkT h t → Sorted (ents h t) → (ents h t).length ≤ 1000000 → all = pre.map LE.ent ++ (rangeE lo hi op (ents h t) ++ rest) →
      Calls Tryz.prog 121 #[ptr h t, inV lo hi op, .func (.yield l) #[] #[]] W (WalkPost lo hi op (ents h t) all pre J Jx C W)
  | 0, t, pre, rest, C, W0, W, hJ, hx, hn, hF, ok, hs, _, hall =>
    walk_leaf (F := F) (leafC_node ok hs) (fun W W' a ha hz => ⟨a.1.agree ha, fun b hb => Nat.lt_of_lt_of_le (a.2 b hb) hz⟩) (keys_small hn.1) hT hJ hx hn (fun b hb => ⟨hn.2 b hb, hF b hb⟩) hall
  | h + 1, t, pre, rest, C, W0, W, hJ, hx, hn, hF, ok, hs, hl, hall =>
    walk_succ hT (fun t pre rest C W0 W a b c d e f g i => walk_any hT h t pre rest C W0 W a b c d e f g i) hJ hx hn hF ok hs hl hall
theorem walkR_any {F : Nat → Prop} {lo hi : ByteArray} {op : Bool} {l : Nat} {J : List LE → (Nat → Prop) → World → Prop} {Jx : List LE → World → Prop} {T : RT} (hT : Takes Tryz.prog l encE (ScanG (rangeE lo hi op (entsT T))) J Jx)
    {C : Nat → Prop} {W0 W : World} (hJ : J [] C W0) (hx : Ext W0 W) (hn : TreeAt F T W) (hF : ∀ b, F b → ¬ C b) (ok : OkR T) (hl : (entsT T).length ≤ 1000000) :
    Calls Tryz.prog 121 #[rootV T, inV lo hi op, .func (.yield l) #[] #[]] W (WalkPost lo hi op (entsT T) (rangeE lo hi op (entsT T)) [] J Jx C W) := by
  match T, hn, ok, hl with
  | none, _, _, _ => exact walk_leaf (F := fun _ => False) (rest := []) leafC_nil (fun _ _ _ _ _ => trivial) (fun e he => by cases he) hT hJ hx trivial (fun b hb => hb.elim) (by simp [entsT])
  | some ⟨h, t⟩, hn, ok, hl => exact walk_any hT h t [] [] C W0 W hJ hx hn hF ok.1 ok.2.2 hl (by simp [entsT])
end Go.Proofs.YtechahocffcbpaaGreatDoor
namespace Go.Proofs.YtechahocffcbpaaGreatDoor
open Go.RowKit Go.Shelf
set_option linter.unusedVariables false
set_option linter.unusedSimpArgs false
structure RangeB (w : World) (B : Nat) (T : RT) (lo hi : ByteArray) (op : Bool) : Prop where
  bt : Blk w B 25 #[rootV T]
  bl : Blk w (B + 1) 9 #[.string lo]
  bh : Blk w (B + 2) 9 #[.string hi]
  bo : Blk w (B + 3) 4 #[.bool op]
def RangeK (F : Nat → Prop) (B : Nat) (b : Nat) : Prop := F b ∨ (B ≤ b ∧ b < B + 4)
abbrev rangeL (B : Nat) : Array Value := #[.pointer (some ⟨B, 0, none⟩), .pointer (some ⟨B + 1, 0, none⟩), .pointer (some ⟨B + 2, 0, none⟩), .pointer (some ⟨B + 3, 0, none⟩)]
theorem RangeB.agree {w w' : World} {B : Nat} {T : RT} {lo hi : ByteArray} {op : Bool} (h : RangeB w B T lo hi op) {F : Nat → Prop} (ha : Agree F w w') (hF : ∀ b, B ≤ b → b < B + 4 → F b) : RangeB w' B T lo hi op :=
  ⟨h.bt.agree ha (hF _ (by omega) (by omega)), h.bl.agree ha (hF _ (by omega) (by omega)), h.bh.agree ha (hF _ (by omega) (by omega)), h.bo.agree ha (hF _ (by omega) (by omega))⟩
theorem RangeB.lt {w : World} {B : Nat} {T : RT} {lo hi : ByteArray} {op : Bool} (h : RangeB w B T lo hi op) : B + 3 < w.heap.size := h.bo.lt
theorem WalkPost.st {lo hi : ByteArray} {op : Bool} {es all : List Ent} {pre : List LE} {J : List LE → (Nat → Prop) → World → Prop} {Jx : List LE → World → Prop} {C : Nat → Prop} {W : World} {e : Ending} {W' : World} (h : WalkPost lo hi op es all pre J Jx C W e W') : St C W W' := by
  rcases h with ⟨_, _, _, _, _, _, _, h5, _⟩ | ⟨_, h5, _⟩ <;> exact h5
theorem range_seq {w0 : World} {F : Nat → Prop} {T : RT} {B : Nat} {lo hi : ByteArray} {op : Bool} (hT : TreeAt F T w0) (ok : OkR T) (hl : (entsT T).length ≤ 1000000) (hB : RangeB w0 B T lo hi op) :
    SeqC Tryz.prog 120 (rangeL B) encE (RangeK F B) (ScanG (rangeE lo hi op (entsT T))) (fun xs => xs.map LE.ent = rangeE lo hi op (entsT T)) (fun pre => pre.map LE.ent <+: rangeE lo hi op (entsT T)) w0 := by
  intro l J Jx C W hTk hA hsz hCK hJ
  have hBW : RangeB W B T lo hi op := hB.agree hA fun b h1 h2 => .inr ⟨h1, h2⟩
  have hTW : TreeAt F T W := ⟨hT.1.agree (hA.mono fun b hb => .inl hb), fun b hb => Nat.lt_of_lt_of_le (hT.2 b hb) hsz⟩
  have hwk := fun W1 (hW : Ext W W1) => walkR_any hTk hJ hW (hTW.ext hW) (fun b hb h => hCK b h (.inl hb)) ok hl
  have hCl := hTk.lt [] C W hJ
  obtain ⟨p, hp⟩ := rootV_ptr T
  rw [hp] at hwk
  have hbt := hBW.bt
  rw [hp] at hbt
  have HSS := Lib.hid (show ∀ W1, St C W W1 → W1.cell? ⟨B, 0, none⟩ = some (.pointer p) ∧ W1.cell? ⟨B + 1, 0, none⟩ = some (.string lo) ∧ W1.cell? ⟨B + 2, 0, none⟩ = some (.string hi) ∧ W1.cell? ⟨B + 3, 0, none⟩ = some (.bool op) from fun W1 hW =>
    ⟨(hW.blk hbt fun h => hCK _ h (.inr ⟨by omega, by omega⟩)).cell 0, (hW.blk hBW.bl fun h => hCK _ h (.inr ⟨by omega, by omega⟩)).cell 0, (hW.blk hBW.bh fun h => hCK _ h (.inr ⟨by omega, by omega⟩)).cell 0, (hW.blk hBW.bo fun h => hCK _ h (.inr ⟨by omega, by omega⟩)).cell 0⟩)
  have HWK := Lib.hid hwk
  clear hTk hA hsz hCK hJ hBW hTW hwk hp hT ok hl hB hbt hCl
  show Calls _ _ #[.func (.yield l) #[] #[], .pointer (some ⟨B, 0, none⟩), .pointer (some ⟨B + 1, 0, none⟩), .pointer (some ⟨B + 2, 0, none⟩), .pointer (some ⟨B + 3, 0, none⟩)] W _
  go_enter Tryz.func120, Tryz.ntmps120
  go_wp2_with fail
  refine wp_region_held_drew (S := (fun w' => St C W w')) (by kernel_rfl) (((St.refl C W).drew)) (fun hHeld => ?_)
  refine heldT 0 (some 6) HSS hHeld ?_
  refine heldT 2 (some 8) HSS hHeld ?_
  refine heldT 3 (some 9) HSS hHeld ?_
  refine heldT 4 (some 10) HSS hHeld ?_
  refine heldT 5 (some 11) HSS hHeld ?_
  refine heldT 6 (some 12) HSS hHeld ?_
  refine held_call (i := 1) (by kernel_rfl) rfl (by rfl) (fun K hK => ?_)
  go_simp
  (refine (treeRoot_any _ _).mono ?_; rintro e w1 ⟨rfl, hx1⟩; replace hx1 := ((Ext.refl W).drew).trans hx1; have HX1 := Lib.hid hx1)
  refine hK.out _ _ (hx1.st C) (fun hHeld => ?_)
  clear hK K
  try simp only [Act.put, List.setIfInBounds_toArray, List.set_cons_zero, List.set_cons_succ]
  refine held_call (i := 7) (by kernel_rfl) rfl (by rfl) (fun K hK => ?_)
  go_simp
  (refine (HWK.out _ HX1.out).mono ?_; intro e w2 hp2; obtain ⟨b2, rfl⟩ := hp2.bool; have HP2 := Lib.hid (hp2.from HX1.out); clear hp2)
  refine hK.out _ _ (HP2.out.st) (fun hHeld => ?_)
  clear hK K
  try simp only [Act.put, List.setIfInBounds_toArray, List.set_cons_zero, List.set_cons_succ]
  refine wpAnyH_done (by kernel_rfl) ?_ _
  go_wp2_with fail
  go_end0
  refine ⟨⟨_, rfl⟩, ?_⟩
  rcases HP2.out with ⟨new, C', W0, -, h2, h3, h4, -, -⟩ | ⟨-, -, pre', W0, h2, h3, h4⟩
  · exact .inl ⟨new, C', W0, h4, h2, h3⟩
  · exact .inr ⟨pre', W0, h4, h2, h3⟩
def RangePost (T : RT) (lo hi : ByteArray) (op : Bool) (w : World) (e : Ending) (w' : World) : Prop :=
  ∃ B, e = .returned (.func (.func 120) #[] (rangeL B)) ∧ Ext w w' ∧ RangeB w' B T lo hi op ∧ w.heap.size ≤ B
theorem range_any (w : World) (T : RT) (lo hi : ByteArray) (op : Bool) : Calls Tryz.prog 81 #[treeV T, .string lo, .string hi, .bool op] w (RangePost T lo hi op w) := by
  obtain ⟨p, hp⟩ := rootV_ptr T
  rw [treeV, hp]
  go_enter Tryz.func81, Tryz.ntmps81
  go_wp2_with fail
  go_ret
  obtain ⟨hx, -, b0, b1, b2, b3⟩ := four_blocks w 25 9 9 4 #[.pointer p] #[.string lo] #[.string hi] #[.bool op] _ rfl
  exact ⟨w.heap.size, rfl, hx, ⟨by rw [hp]; exact b0, b1, b2, b3⟩, Nat.le_refl _⟩
end Go.Proofs.YtechahocffcbpaaGreatDoor
namespace Go.Proofs.YtechahocffcbpaaGreatDoor
open Go.RowKit
set_option linter.unusedVariables false
set_option linter.unusedSimpArgs false
theorem Bw.trans {a b c : World} (h : Below a.heap.size a b) (k : Below b.heap.size b c) : Below a.heap.size a c := h.trans (k.mono h.size)
theorem Bw.ext {a b c : World} (h : Below a.heap.size a b) (k : Ext b c) : Below a.heap.size a c := Bw.trans h k.below
theorem toList_eq' (p : ByteArray) : p.toList = p.data.toList := ByteArray.toList_eq p
theorem size_toList (p : ByteArray) : p.toList.length = p.size := by rw [toList_eq', Array.length_toList]; rfl
theorem at_toList {p : ByteArray} {i : Nat} (h : i < p.size) : p.toList[i]? = some p[i] := by
  rw [toList_eq', Array.getElem?_toList]
  exact Array.getElem?_eq_getElem h
def EndPost (p : ByteArray) (w : World) (e : Ending) (w' : World) : Prop :=
  Below w.heap.size w w' ∧ ∃ (end_ : ByteArray) (ok : Bool), e = .returned (.tuple #[.string end_, .bool ok]) ∧ (match endL p.toList with | none => ok = false ∧ end_ = ByteArray.empty | some q => ok = true ∧ end_.toList = q)
theorem mk_toList (l : List UInt8) : (ByteArray.mk l.toArray).toList = l := by rw [toList_eq']
theorem split_last {p : ByteArray} {i n : Nat} (h : i < p.size) (hr : p.toList.drop (i + 1) = List.replicate n 255) : p.toList = p.toList.take i ++ p[i] :: List.replicate n 255 := by
  have h1 := at_toList h
  obtain ⟨h2, h3⟩ := List.getElem?_eq_some_iff.1 h1
  conv => lhs; rw [← List.take_append_drop i p.toList, List.drop_eq_getElem_cons h2, h3, hr]
theorem extract_toList (p : ByteArray) (k : Nat) : (p.extract 0 k).toList = p.toList.take k := by
  rw [toList_eq', toList_eq', ByteArray.data_extract]
  simp
theorem bytesRow_at {s : ByteArray} {cap i : Nat} {b : UInt8} (h : s.toList[i]? = some b) : (bytesRow s cap)[i]? = some (.int .u8 (b.toNat : Int)) := by
  rw [toList_eq', Array.getElem?_toList] at h
  have hi := (Array.getElem?_eq_some_iff.1 h).1
  unfold bytesRow
  rw [Array.getElem?_append_left (by simpa using hi), Array.getElem?_map, h]; rfl
theorem bytesRow_size (s : ByteArray) (cap : Nat) : s.size ≤ (bytesRow s cap).size := by
  unfold bytesRow
  rw [Array.size_append, Array.size_map]
  exact Nat.le_add_right _ _
theorem bytes_laid (w : World) (s : ByteArray) (cap : Nat) (t : TypeId) {i : Nat} {b c : UInt8} (hb : s.toList[i]? = some b) (W : World) (hW : W = (w.alloc (.cells (bytesRow s cap) t ((bytesRow s cap).size, (bytesRow s cap).size + 1))).drew) :
    W.cell? ⟨w.heap.size, i, none⟩ = some (.int .u8 (b.toNat : Int)) ∧ W.frozen? ⟨w.heap.size, i, none⟩ = false ∧ w.heap.size < W.heap.size ∧ Below w.heap.size w W ∧
      ∀ j (x : UInt8), (s.toList.set i c)[j]? = some x → (W.setCell ⟨w.heap.size, i, none⟩ (.int .u8 (c.toNat : Int))).cell? ⟨w.heap.size, j, none⟩ = some (.int .u8 (x.toNat : Int)) := by
  have hr : ∀ j, W.cell? ⟨w.heap.size, j, none⟩ = (bytesRow s cap)[j]? := fun j => by
    rw [hW]; exact World.cell?_alloc_mark w _ _ _ j
  have hi : i < s.size := by
    have := (List.getElem?_eq_some_iff.1 hb).1
    rwa [size_toList] at this
  have hh : W.heap[w.heap.size]? = some (.cells (bytesRow s cap) t ((bytesRow s cap).size, (bytesRow s cap).size + 1)) := by
    rw [hW]; exact heap_alloc_new w _
  refine ⟨by rw [hr]; exact bytesRow_at hb, ?_, by rw [hW]; show w.heap.size < (w.alloc _).heap.size; rw [World.size_alloc]; exact Nat.lt_succ_self _, by rw [hW]; exact ((Below.refl _ w).alloc (Nat.le_refl _) _).drew, fun j x hx => ?_⟩
  · unfold World.frozen?
    rw [hh]
    have := bytesRow_size s cap
    simp; omega
  · by_cases hj : j = i
    · subst hj
      rw [List.getElem?_set_self (List.getElem?_eq_some_iff.1 hb).1] at hx
      cases hx
      exact World.cell?_setCell_same W _ _ ((hr j).trans (bytesRow_at hb))
    · rw [List.getElem?_set_ne (fun e => hj e.symm)] at hx
      rw [cell_set_other _ _ _ _ _ (fun e => hj e.symm), hr]
      exact bytesRow_at hx
theorem keysEnd_any (w : World) (p : ByteArray) (hp : p.size ≤ maxLen) : Calls Tryz.prog 80 #[.string p] w (EndPost p w) := by
  unfold maxLen at hp
  have hcv : ∀ (s : ByteArray) (W : World), (convert 9 140 (.string s)).run Tryz.prog W = .ok (.slice (some ⟨W.heap.size, 0, none⟩) s.size (grownCap W s.size 0 5)) (W.drew.alloc (.cells (bytesRow s (grownCap W s.size 0 5)) 5 ((bytesRow s (grownCap W s.size 0 5)).size, (bytesRow s (grownCap W s.size 0 5)).size + 1))) :=
    fun s W => run_bytes_of_string W 9 140 5 s Tryz.underlying9 Tryz.underlying140 Tryz.underlying5
  have hw0 : wrap64 ((p.size : Int) - 1) = (p.size : Int) - 1 := by unfold wrap64; omega
  go_enter Tryz.func80, Tryz.ntmps80
  go_wp2_with fail
  go_step3
  go_wp2_with fail
  go_step3
  go_wp2_with fail
  go_loopw [4] (fun v wr => wr = w ∧ ((v = .int .i64 (-1) ∧ endL p.toList = none) ∨ ∃ i, i < p.size ∧ v = .int .i64 (i : Int) ∧ p.toList.drop (i + 1) = List.replicate (p.size - (i + 1)) 255)) (fun v _ => (intOf v + 1).toNat)
  case atStart =>
    refine ⟨rfl, ?_⟩
    by_cases h0 : p.size = 0
    · refine .inl ⟨by rw [h0]; rfl, ?_⟩
      have : p.toList = [] := List.eq_nil_of_length_eq_zero (by rw [size_toList]; exact h0)
      rw [this]; rfl
    · refine .inr ⟨p.size - 1, by omega, by congr 1; omega, ?_⟩
      rw [List.drop_eq_nil_of_le (by rw [size_toList]; omega), show p.size - (p.size - 1 + 1) = 0 from by omega]; rfl
  case round =>
    obtain ⟨rfl, ⟨rfl, hn⟩ | ⟨i, hi, rfl, hr⟩⟩ := hrel
    · have HN := Lib.hid hn
      clear hn
      go_wp2_with fail
      rw [Exit.noGoto_ret]
      refine bodyPost_ret (v := .tuple #[.string ByteArray.empty, .bool false]) (by simp [results, Tryz.results80, go_sem]; rfl) rfl ?_
      exact ⟨Below.refl _ _, ByteArray.empty, false, rfl, by rw [HN.out]; exact ⟨rfl, rfl⟩⟩
    · have hi' : (i : Int) < (p.size : Int) := by omega
      have hi0 : (0 : Int) ≤ (i : Int) := by omega
      have hsp := split_last hi hr
      have HSP := Lib.hid hsp
      have HR := Lib.hid hr
      have hw1 : wrap64 ((i : Int) - 1) = (i : Int) - 1 := by unfold wrap64; omega
      clear hsp hr
      by_cases hff : p[i] = 255
      · have hb1 : (((p[i].toNat : Nat) : Int) != 255) = false := by rw [hff]; rfl
        go_wp2_with fail
        go_roundw
        case rel =>
          refine ⟨trivial, ?_⟩
          cases i with
          | zero =>
            refine .inl ⟨rfl, ?_⟩
            rw [HSP.out, hff, List.take_zero, List.nil_append, ← List.replicate_succ]
            exact endL_ff _
          | succ i =>
            refine .inr ⟨i, by omega, by simp, ?_⟩
            have h2 : p.toList.drop (i + 1) = p[i + 1] :: p.toList.drop (i + 1 + 1) := by
              have h1 := at_toList hi
              obtain ⟨h2, h3⟩ := List.getElem?_eq_some_iff.1 h1
              rw [List.drop_eq_getElem_cons h2, h3]
            rw [h2, HR.out, hff, ← List.replicate_succ]
            congr 1; omega
        case measure => simp [intOf]
      · have hb1 : (((p[i].toNat : Nat) : Int) != 255) = true := bne_iff_ne.2 fun e => hff (UInt8.toNat_inj.1 (by show p[i].toNat = 255; omega))
        have hmin : min (i + 1) p.size = i + 1 := by omega
        have hexs : (p.extract 0 (i + 1)).size = i + 1 := by rw [← size_toList, extract_toList, List.length_take, size_toList]; omega
        have hlt256 : p[i].toNat < 256 := p[i].toNat_lt
        have hw8 : IntKind.u8.wrap ((p[i].toNat : Int) + 1) = (p[i].toNat : Int) + 1 := by
          have : p[i].toNat ≠ 255 := fun e => hff (UInt8.toNat_inj.1 e)
          rw [IntKind.wrap_u8]; omega
        obtain ⟨q, hq⟩ : ∃ q, q = (p.extract 0 (i + 1)).toList.set i (p[i] + 1) := ⟨_, rfl⟩
        have hext : (p.extract 0 (i + 1)).toList = p.toList.take i ++ [p[i]] := by
          rw [extract_toList, List.take_add_one, at_toList hi]; rfl
        have htl : (p.toList.take i).length = i := by rw [List.length_take, size_toList]; omega
        have hqe : q = p.toList.take i ++ [p[i] + 1] := by
          rw [hq, hext, List.set_append_right _ _ (by omega), htl, Nat.sub_self]; rfl
        have hql : q.length = i + 1 := by rw [hqe, List.length_append, htl]; rfl
        have hend : endL p.toList = some q := by rw [HSP.out, endL_at hff, hqe]
        have hib : (p.extract 0 (i + 1)).toList[i]? = some p[i] := by rw [hext, List.getElem?_append_right (by omega), htl, Nat.sub_self]; rfl
        have hbn : ((p[i] + 1).toNat : Int) = (p[i].toNat : Int) + 1 := by
          have h1 : (p[i] + 1).toNat = p[i].toNat + 1 := by
            rw [UInt8.toNat_add]
            have : p[i].toNat ≠ 255 := fun e => hff (UInt8.toNat_inj.1 e)
            show (p[i].toNat + 1) % 256 = _
            omega
          omega
        have hcb : ∀ W : World, (∀ j (hj : j < q.length), W.cell? ((⟨wr.heap.size, 0, none⟩ : Addr).add j) = some (.int .u8 (q[j].toNat : Int))) → ∀ cap, (convert 140 9 (.slice (some ⟨wr.heap.size, 0, none⟩) (i + 1) cap)).run Tryz.prog W = .ok (.string ⟨q.toArray⟩) W := fun W h cap => by
          have := run_convert_bytes_back (P := Tryz.prog) W 140 9 5 ⟨wr.heap.size, 0, none⟩ cap q Tryz.underlying140 Tryz.underlying5 Tryz.underlying9 h
          rwa [hql] at this
        have HCB := Lib.hid hcb
        have HEND := Lib.hid hend
        have HQ := Lib.hid hq
        have HIB := Lib.hid hib
        have HBN := Lib.hid hbn
        clear hq hext htl hqe hql hend hib hbn hcb
        go_upto_region 8 with (fail)
        generalize hW2 : World.drew _ = W2
        obtain ⟨c2, f2, l2, hbl2, hset⟩ := bytes_laid wr (p.extract 0 (i + 1)) _ _ (c := p[i] + 1) HIB.out W2 hW2.symm
        rw [HBN.out, ← HQ.out] at hset
        have HS2 := Lib.hid hset
        have HBL := Lib.hid hbl2
        clear hW2 hset hbl2 hcv
        go_upto_region 9 with (fail)
        have hcb := HCB.out (W2.setCell ⟨wr.heap.size, i, none⟩ (.int .u8 ((p[i].toNat : Int) + 1))) (fun j hj => by
          rw [add_at, Nat.zero_add]
          exact HS2.out j _ (List.getElem?_eq_getElem hj))
        go_wp2_with fail
        rw [Exit.noGoto_ret]
        refine bodyPost_ret (v := .tuple #[.string ⟨q.toArray⟩, .bool true]) (by simp [results, Tryz.results80, go_sem]) rfl ?_
        exact ⟨HBL.out.setCell (p := ⟨wr.heap.size, i, none⟩) (Nat.le_refl _) _, _, _, rfl, by rw [HEND.out]; exact ⟨rfl, mk_toList q⟩⟩
end Go.Proofs.YtechahocffcbpaaGreatDoor
namespace Go.Proofs.YtechahocffcbpaaGreatDoor
open Go.RowKit Go.Shelf
set_option linter.unusedVariables false
set_option linter.unusedSimpArgs false
def prefixE (p : ByteArray) (es : List Ent) : List Ent := es.filter fun e => p.toList.isPrefixOf e.1.toList
theorem EndPost.range {p : ByteArray} {w : World} {e : Ending} {w' : World} (h : EndPost p w e w') : ∃ (en : ByteArray) (ok : Bool), e = .returned (.tuple #[.string en, .bool ok]) ∧ Below w.heap.size w w' ∧ ∀ es, rangeE p en (!ok) es = prefixE p es := by
  obtain ⟨hb, en, ok, he, hm⟩ := h
  refine ⟨en, ok, he, hb, fun es => ?_⟩
  refine List.filter_congr fun x _ => ?_
  rw [begins_iff]
  cases hE : endL p.toList with
  | none =>
    rw [hE] at hm
    obtain ⟨rfl, -⟩ := hm
    rfl
  | some q =>
    rw [hE] at hm
    obtain ⟨rfl, hq⟩ := hm
    simp only [inI, Bool.not_true, Bool.false_or, klt, hq]
def PrefixPost (T : RT) (p : ByteArray) (w : World) (e : Ending) (w' : World) : Prop :=
  ∃ (B : Nat) (en : ByteArray) (op : Bool), e = .returned (.func (.func 120) #[] (rangeL B)) ∧ Below w.heap.size w w' ∧ RangeB w' B T p en op ∧ w.heap.size ≤ B ∧ ∀ es, rangeE p en op es = prefixE p es
theorem prefix_any (w : World) (T : RT) (p : ByteArray) (hp : p.size ≤ maxLen) : Calls Tryz.prog 47 #[treeV T, .string p] w (PrefixPost T p w) := by
  have hr := fun W lo hi op => range_any W T lo hi op
  have hke := fun W => keysEnd_any W p hp
  obtain ⟨r, hpr⟩ := rootV_ptr T
  rw [treeV, hpr]
  simp only [treeV, hpr] at hr
  have hx0 : Ext w (w.alloc (.cells #[.pointer r] 25)) := (Ext.refl w).alloc _ _
  have hb0 := Blk.new w 25 #[.pointer r]
  have HX0 := Lib.hid hx0
  have HB0 := Lib.hid hb0
  have HR := Lib.hid hr
  have HKE := Lib.hid hke
  clear hx0 hb0 hr hpr hke
  go_enter Tryz.func47, Tryz.ntmps47
  go_wp2_with fail
  refine (HKE.out _).mono ?_
  intro e w1 he
  obtain ⟨en, ok, rfl, hb1, hen⟩ := he.range
  have hbw := Bw.trans HX0.out.below hb1
  have c0 : w1.cell? ⟨w.heap.size, 0, none⟩ = some (.pointer r) := (HB0.out.agree (Agree.of_below hb1 (F := Lt (w.alloc (.cells #[.pointer r] 25)).heap.size) fun _ h => h) HB0.out.lt).cell 0
  have HBW := Lib.hid hbw
  have HEN := Lib.hid hen
  clear he hb1 hen hbw
  go_wp2_with fail
  refine (HR.out _ _ _ _).mono ?_
  rintro e w2 ⟨B, rfl, hx2, hrb, hB⟩
  have HP := Lib.hid (show Below w.heap.size w w2 ∧ RangeB w2 B T p en (!ok) ∧ w.heap.size ≤ B from ⟨Bw.ext HBW.out hx2, hrb, Nat.le_trans HBW.out.size hB⟩)
  clear hx2 hrb hB
  go_wp2_with fail
  go_ret
  exact ⟨B, en, !ok, rfl, HP.out.1, HP.out.2.1, HP.out.2.2, HEN.out⟩
end Go.Proofs.YtechahocffcbpaaGreatDoor
namespace Go.Proofs.YtechahocffcbpaaGreatDoor
open Go.RowKit
set_option linter.unusedVariables false
set_option linter.unusedSimpArgs false
def num8 (n : Int) : Val := .mk 3 false n ByteArray.empty [] [] []
def e5 : List Ent := [(⟨#[97]⟩, num8 1), (⟨#[98]⟩, num8 3), (⟨#[98, 47, 49]⟩, num8 4), (⟨#[98, 47, 50]⟩, num8 0), (⟨#[99]⟩, num8 2)]
theorem Bw.tree {w w' : World} {T : RT} (h : TreeAt (Lt w.heap.size) T w) (k : Below w.heap.size w w') : TreeAt (Lt w.heap.size) T w' := ⟨h.1.agree (Agree.of_below k (F := Lt w.heap.size) fun _ h => h), fun b hb => Nat.lt_of_lt_of_le hb k.size⟩
theorem Bw.blk {w w' : World} {g : Nat} {t : TypeId} {cs : Array Value} (h : Blk w g t cs) (k : Below w.heap.size w w') : Blk w' g t cs := h.agree (Agree.of_below k (F := Lt w.heap.size) fun _ h => h) h.lt
theorem ES.part {w : World} {F : Nat → Prop} {b o c : Nat} {xs : List LE} (h : ES w F ⟨some ⟨b, o, none⟩, c⟩ xs) {i n : Nat} (hn : i + n ≤ xs.length) (h0 : 0 < n) : ES w F ⟨some ⟨b, o + i * 7, none⟩, c - i⟩ ((xs.drop i).take n) := by
  obtain ⟨⟨b', o', h1, h2, h3⟩, hv, hf⟩ := h
  obtain ⟨e1, e2, e3⟩ := h1.eq (by omega)
  have hF := h1.fits (by omega)
  obtain ⟨rfl, rfl⟩ : b = b' ∧ o = o' := by simpa using e1
  have hl : ((xs.drop i).take n).length = n := by rw [List.length_take, List.length_drop]; omega
  dsimp only at e2 e3
  refine ⟨⟨b, o + i * 7, by rw [hl]; exact .some _ _ _ _ (by omega) (by omega) hF, by rw [flatE_len], fun j u hj => ?_⟩, fun x hx => hv x (List.mem_of_mem_drop (List.mem_of_mem_take hx)), by rw [hl]; omega⟩
  have hj' : (flatE xs)[i * 7 + j]? = some u := by
    rw [← flatE_take, ← flatE_drop] at hj
    have hjl := (List.getElem?_eq_some_iff.1 hj).1
    rw [List.getElem?_take] at hj
    split at hj
    · rwa [List.getElem?_drop] at hj
    · cases hj
  rw [Nat.add_assoc]
  exact h3 _ u hj'
end Go.Proofs.YtechahocffcbpaaGreatDoor
