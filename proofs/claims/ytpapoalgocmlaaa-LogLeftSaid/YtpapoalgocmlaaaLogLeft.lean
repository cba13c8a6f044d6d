/- LogLeft: the walk. -/
import Derived.Test.YtpapoalgocmlaaaLogAll
namespace Go.Proofs.Ytpapoalgocmlaaa
open Go.RowKit Go.Shelf
set_option linter.unusedVariables false
set_option linter.unusedSimpArgs false
attribute [local go_sem] Oper.semAt_some

/-- Put, where what is put is one tree, again and again, from version 0 on. -/
theorem put_left {w : World} {L R keep i : Nat} {q : Option Addr} (h : LogAt w L R keep 0 ((List.replicate i q).map .pointer)) (hm : i ≤ 1000) :
    Calls Try.prog 29 #[logV L, .int .u64 i, .agg #[.pointer q]] w (PutN L R keep 0 ((List.replicate i q).map .pointer) (.pointer q) w) :=
  put_log h i (by simp) (by omega) q
theorem repl_succ (i : Nat) (q : Option Addr) : (List.replicate i q).map Value.pointer ++ [.pointer q] = (List.replicate (i + 1) q).map Value.pointer := by
  rw [List.replicate_succ', List.map_append]; rfl

/-- The boxes of LogLeft's parameters and of its answer. -/
structure LeftB (w : World) (n keep : Nat) (few : Int) (W : World) : Prop where
  cn : W.cell? ⟨w.heap.size, 0, none⟩ = some (.int .i64 n)
  ck : W.cell? ⟨w.heap.size + 1, 0, none⟩ = some (.int .i64 keep)
  cf : W.cell? ⟨w.heap.size + 1 + 1, 0, none⟩ = some (.int .i64 few)
  cr : W.cell? ⟨w.heap.size + 1 + 1 + 1, 0, none⟩ = some (.bool false)
  fr : W.frozen? ⟨w.heap.size + 1 + 1 + 1, 0, none⟩ = false
  lt : w.heap.size + 1 + 1 + 1 < W.heap.size
theorem LeftB.agree {w W W' : World} {n keep : Nat} {few : Int} (h : LeftB w n keep few W) {F : Nat → Prop} (ha : Agree F W W') (hF : ∀ b, b ≤ w.heap.size + 1 + 1 + 1 → w.heap.size ≤ b → F b) (hs : W.heap.size ≤ W'.heap.size) : LeftB w n keep few W' :=
  ⟨(ha.cell (hF _ (by omega) (by omega))).trans h.cn, (ha.cell (hF _ (by omega) (by omega))).trans h.ck, (ha.cell (hF _ (by omega) (by omega))).trans h.cf, (ha.cell (hF _ (by omega) (by omega))).trans h.cr,
    (World.frozen?_of_block (a := ⟨w.heap.size + 1 + 1 + 1, 0, none⟩) (ha (w.heap.size + 1 + 1 + 1) (hF _ (by omega) (by omega)))).trans h.fr, Nat.lt_of_lt_of_le h.lt hs⟩
theorem LeftB.ext {w W W' : World} {n keep : Nat} {few : Int} (h : LeftB w n keep few W) (he : Ext W W') : LeftB w n keep few W' :=
  h.agree (he.agree (F := Lt W.heap.size) fun _ h => h) (fun b hb _ => Nat.lt_of_le_of_lt hb h.lt) he.size
theorem LeftB.below {w W W' : World} {n keep : Nat} {few : Int} (h : LeftB w n keep few W) {S : Nat} (hb : Below S W W') (hS : w.heap.size + 1 + 1 + 1 < S) : LeftB w n keep few W' :=
  h.agree (Agree.of_below hb (F := Lt S) fun _ h => h) (fun b hb _ => Nat.lt_of_le_of_lt hb hS) hb.size
theorem LeftB.start (w : World) (n keep : Nat) (few : Int) : LeftB w n keep few ((((w.alloc (.cells #[.int .i64 n] 3)).alloc (.cells #[.int .i64 keep] 3)).alloc (.cells #[.int .i64 few] 3)).alloc (.cells #[.bool false] 4)) := by
  have e1 : Ext _ _ := (Ext.refl (w.alloc (.cells #[.int .i64 n] 3))).alloc #[.int .i64 keep] 3
  have e2 := (Ext.refl ((w.alloc (.cells #[.int .i64 n] 3)).alloc (.cells #[.int .i64 keep] 3))).alloc #[.int .i64 few] 3
  have e3 := (Ext.refl (((w.alloc (.cells #[.int .i64 n] 3)).alloc (.cells #[.int .i64 keep] 3)).alloc (.cells #[.int .i64 few] 3))).alloc #[.bool false] 4
  have b0 := (((Blk.new w 3 #[.int .i64 n]).ext e1).ext e2).ext e3
  have b1 := ((Blk.new (w.alloc (.cells #[.int .i64 n] 3)) 3 #[.int .i64 keep]).ext e2).ext e3
  have b2 := (Blk.new ((w.alloc (.cells #[.int .i64 n] 3)).alloc (.cells #[.int .i64 keep] 3)) 3 #[.int .i64 few]).ext e3
  have b3 := Blk.new (((w.alloc (.cells #[.int .i64 n] 3)).alloc (.cells #[.int .i64 keep] 3)).alloc (.cells #[.int .i64 few] 3)) 4 #[.bool false]
  simp only [World.size_alloc] at b1 b2 b3
  exact ⟨b0.cell 0, b1.cell 0, b2.cell 0, b3.cell 0, b3.frozen 0, b3.lt⟩

/-- Between two rounds of the first loop; how the loop is left. -/
def LeftI (wr : World) (pre : List (Told wr)) (W : World) : Prop := (W.cell? ⟨wr.heap.size, 0, none⟩ = some (.int .i64 pre.length) ∧ W.frozen? ⟨wr.heap.size, 0, none⟩ = false) ∧ Below wr.heap.size wr W
def LeftX (wr : World) (o : Nat) (c : Code) (pre : List (Told wr)) (W : World) : Prop := (c = .exit 2 ∧ Below wr.heap.size wr W) ∨ (c = .ret ∧ ∃ (pre' : List (Told wr)) (x : Told wr), pre = pre' ++ [x] ∧ x.1.1 ≠ o + pre'.length)
theorem LeftI.own {wr : World} {B : Nat} (hB : wr.heap.size ≤ B) : OwnFrom B (LeftI wr) :=
  OwnFrom.and (Own.from (fun s A C row hs hg hr => ⟨cell_kept hs.1 hg hr, (frozen_kept hs.1 hg hr).trans hs.2⟩) _) (ownFrom_below (Nat.le_refl _) hB)
theorem LeftX.own {wr : World} {B o : Nat} (hB : wr.heap.size ≤ B) (c : Code) : OwnFrom B (LeftX wr o c) :=
  fun s A C row hs hg hr => hs.imp (fun h => ⟨h.1, ownFrom_below (β := List (Told wr)) (Nat.le_refl _) hB s A C row h.2 hg hr⟩) id

set_option maxRecDepth 100000 in
set_option maxHeartbeats 4000000 in
theorem left_main (n keep : Nat) (few : Int) (hn : n ≤ 100) (hk : 1 ≤ keep) (hk' : keep ≤ 100) (w : World) :
    Calls Try.prog 6 #[.int .i64 n, .int .i64 keep, .int .i64 few] w fun e w' => e = .returned (.bool true) ∧ Below w.heap.size w w' := by
  have g1 : decide ((n : Int) < 0) = false := decide_eq_false (by omega)
  have g2 : decide ((100 : Int) < (n : Int)) = false := decide_eq_false (by omega)
  have g3 : decide ((keep : Int) < 1) = false := decide_eq_false (by omega)
  have g4 : decide ((100 : Int) < (keep : Int)) = false := decide_eq_false (by omega)
  refine (callsIn_wide (n := 6)).1 ?_
  refine callsIn_of_wp_marks Try.func6 rfl trivial ?_ rfl
  simp only [Try.ntmps6, List.size_toArray, List.length_cons, List.length_nil, Nat.reduceAdd, Nat.reduceSub, Array.replicate_succ, Array.replicate_zero, List.push_toArray, List.append_toArray, List.nil_append, List.cons_append]
  gi_wp2_with fail
  refine ⟨trivial, ?_⟩
  refine (callsIn_wide.2 (new_any _ keep)).mono ?_
  rintro e w1 (⟨hn', -⟩ | ⟨-, L, R, ring, rfl, hl, hL, hR, hx1⟩)
  · exact absurd ⟨by omega, by omega⟩ hn'
  have HL1 := Lib.hid (show LogAt w1 L R keep 0 [] from LogAt.nil hl)
  have hb0 := LeftB.start w n keep few
  have hx0 : Ext w ((((w.alloc (.cells #[.int .i64 n] 3)).alloc (.cells #[.int .i64 keep] 3)).alloc (.cells #[.int .i64 few] 3)).alloc (.cells #[.bool false] 4)) := ((((Ext.refl w).alloc _ _).alloc _ _).alloc _ _).alloc _ _
  have hlt0 := hb0.lt
  generalize (((w.alloc (.cells #[.int .i64 n] 3)).alloc (.cells #[.int .i64 keep] 3)).alloc (.cells #[.int .i64 few] 3)).alloc (.cells #[.bool false] 4) = W0 at *
  have HB1 := Lib.hid (hb0.ext hx1)
  have HX1 := Lib.hid (hx0.trans hx1)
  have hs1 := hx1.size
  clear hl hx1 hx0 hb0
  gi_wp2_with fail
  refine ⟨trivial, ?_⟩
  refine (callsIn_wide.2 (all_value w1 _)).mono ?_
  rintro e w2 ⟨rfl, rfl⟩
  have hx2 : Ext w1 (w1.alloc (.cells #[logV L] 23)) := (Ext.refl w1).alloc _ _
  have hbB := Blk.new w1 23 #[logV L]
  generalize w1.alloc (.cells #[logV L] 23) = w2 at *
  have HB2 := Lib.hid (HB1.out.ext hx2)
  have HX2 := Lib.hid (HX1.out.trans hx2)
  have HL2 := Lib.hid (HL1.out.ext hx2)
  have HBB := Lib.hid hbB
  have hs2 := hx2.size
  have hlB := hbB.lt
  clear hx2 hbB
  have hnf := fun W => eql_func_nil (P := Try.prog) W (.func 96) #[] #[.pointer (some ⟨w1.heap.size, 0, none⟩)] Try.underlying59
  gi_wp2_with fail
  refine ⟨trivial, ?_⟩
  refine (callsIn_wide.2 (trees_any2 w2)).mono ?_
  rintro e w3 ⟨T, a, b, c, d, rfl, hT, -, -, -, hTg, hx3, hla, -, -, -, hga⟩
  have c1 : w3.cell? ⟨T, 1, none⟩ = some (.pointer (some ⟨a, 0, none⟩)) := hT.cell 1
  have hTl := hT.lt
  have HB3 := Lib.hid (HB2.out.ext hx3)
  have HX3 := Lib.hid (HX2.out.trans hx3)
  have HL3 := Lib.hid (HL2.out.ext hx3)
  have HBB3 := Lib.hid (HBB.out.ext hx3)
  have hs3 := hx3.size
  clear hx3 hT
  gi_wp2_with fail
  have hx4 : Ext w3 (w3.alloc (.cells #[.pointer (some ⟨a, 0, none⟩)] 30)) := (Ext.refl w3).alloc _ _
  have hb4 := Blk.new w3 30 #[.pointer (some ⟨a, 0, none⟩)]
  generalize w3.alloc (.cells #[.pointer (some ⟨a, 0, none⟩)] 30) = w4 at *
  have c4 : w4.cell? ⟨w3.heap.size, 0, none⟩ = some (.pointer (some ⟨a, 0, none⟩)) := hb4.cell 0
  have HB4 := Lib.hid (HB3.out.ext hx4)
  have HX4 := Lib.hid (HX3.out.trans hx4)
  have HL4 := Lib.hid (HL3.out.ext hx4)
  have HBB4 := Lib.hid (HBB3.out.ext hx4)
  have HPB4 := Lib.hid hb4
  have hs4 := hx4.size
  have hl4 := hb4.lt
  have hLl : L < w1.heap.size := HL1.out.lt.1
  have hRl : R < w1.heap.size := HL1.out.lt.2
  have hBL : w1.heap.size ≠ L := by omega
  have hBR : w1.heap.size ≠ R := by omega
  have hPL : w3.heap.size ≠ L := by omega
  have hPR : w3.heap.size ≠ R := by omega
  have hAL : a ≠ L := by omega
  have hAR : a ≠ R := by omega
  have HLA := Lib.hid (hla.ext hx4)
  clear hx4 hb4 hla HB1 HB2 HB3 HX1 HX2 HX3 HL1 HL2 HL3 HBB HBB3
  gi_loopw [11] (fun q wr => ∃ i : Nat, i ≤ n ∧ q = .int .i64 i ∧ LogAt wr L R keep 0 ((List.replicate i (some (⟨a, 0, none⟩ : Addr))).map .pointer) ∧ LeftB w n keep few wr ∧ Blk wr w1.heap.size 23 #[logV L] ∧ Blk wr w3.heap.size 30 #[.pointer (some ⟨a, 0, none⟩)] ∧ Ext w wr ∧ IsB wr a) (fun q _ => n - (intOf q).toNat)
  case atStart => exact ⟨0, Nat.zero_le _, rfl, HL4.out, HB4.out, HBB4.out, HPB4.out, HX4.out, HLA.out⟩
  case round =>
    clear HB4 HX4 HL4 HBB4 HPB4 c4 c1
    obtain ⟨i, hi, rfl, hl, hb, hbb, hpb, hx, hla⟩ := hrel
    have HLr := Lib.hid hl
    have HBr := Lib.hid hb
    have HBBr := Lib.hid hbb
    have HPBr := Lib.hid hpb
    have HXr := Lib.hid hx
    have HLAr := Lib.hid hla
    have cn := hb.cn
    have cp : wr.cell? ⟨w3.heap.size, 0, none⟩ = some (.pointer (some ⟨a, 0, none⟩)) := hpb.cell 0
    clear hl hb hbb hpb hx hla
    by_cases hlt : i < n
    · have hlt' : (i : Int) < (n : Int) := by omega
      have hw1 : IntKind.u64.wrap (i : Int) = (i : Int) := by rw [IntKind.wrap_u64]; omega
      gi_wp2_with fail
      refine ⟨trivial, ?_⟩
      refine (callsIn_wide.2 (put_left HLr.out (by omega))).mono ?_
      rintro e w5 ⟨rfl, hl5, ha5, hs5, he5⟩
      rw [repl_succ] at hl5
      have hLs := HLr.out.lt
      have HL5 := Lib.hid hl5
      have HB5 := Lib.hid (HBr.out.agree ha5 (fun b hb1 hb2 => ⟨Nat.lt_of_le_of_lt hb1 HBr.out.lt, by omega, by omega⟩) hs5)
      have HBB5 := Lib.hid (HBBr.out.agree ha5 ⟨HBBr.out.lt, hBL, hBR⟩)
      have HPB5 := Lib.hid (HPBr.out.agree ha5 ⟨HPBr.out.lt, hPL, hPR⟩)
      have HX5 := Lib.hid (he5 w HXr.out (by omega) (by omega))
      have HLA5 := Lib.hid (show IsB w5 a from by
        obtain ⟨cs, t, hc⟩ := HLAr.out
        have hbnd : a < wr.heap.size := (Array.getElem?_eq_some_iff.1 hc).1
        exact ⟨cs, t, (ha5 a ⟨hbnd, hAL, hAR⟩).trans hc⟩)
      clear hl5 ha5 he5
      gi_wp2_with fail
      go_roundw
      case rel => exact ⟨i + 1, hlt, by go_num, HL5.out, HB5.out, HBB5.out, HPB5.out, HX5.out, HLA5.out⟩
      case measure => simp [intOf]; omega
    · have hlt' : ¬ (i : Int) < (n : Int) := by omega
      obtain rfl : i = n := by omega
      have HLs := HLr.out.lt
      have hb3 := HBr.out.lt
      have hle : ∀ q ∈ List.replicate i (some (⟨a, 0, none⟩ : Addr)), Leads wr q := fun q hq => by
        rw [List.eq_of_mem_replicate hq]
        intro x e
        cases e
        exact HLAr.out
      have hst := all_log HLr.out hle w1.heap.size (HBBr.out.cell 0) HBBr.out.lt (6 - 1) (by decide)
      have HST := Lib.hid hst
      have hB0 : Below wr.heap.size wr (wr.alloc (.cells #[.int .i64 0] 3)) := (Below.refl _ _).alloc (Nat.le_refl _) _
      have hS := Blk.new wr 3 #[.int .i64 0]
      have HS := Lib.hid hS
      have HB0 := Lib.hid hB0
      clear hst hle hB0 hS
      gi_wp2_with fail
      refine wpIn_rangeFunc_ownF rfl (by decide) (gf := 96) (lb := #[.pointer (some ⟨w1.heap.size, 0, none⟩)]) rfl trivial (enters_of Try.func96 (by kernel_rfl) rfl)
        HST.out belowK_t (belowK_b (by simp)) HB0.out (fun _ => rfl)
        (LeftI wr) (LeftX wr (i - keep)) (LeftI.own (by simp)) (LeftX.own (by simp))
        ⟨⟨HS.out.cell 0, HS.out.frozen 0⟩, HB0.out⟩
        ?a1 ?assign ?body ?done ?stop
      case assign =>
        intro l x W K hK
        have HK := Lib.hid hK
        clear hK
        gi_wp2_with fail
        exact HK.out
      case body =>
        rintro l pre x W ⟨⟨hc, hf⟩, hB⟩ hlen
        have hbW := HBr.out.below hB hb3
        have cn := hbW.cn
        have ck := hbW.ck
        have cf := hbW.cf
        have fr := hbW.fr
        have cr := hbW.cr
        have hlen' : pre.length < 100 := by rw [List.length_replicate] at hlen; omega
        have HB := Lib.hid hB
        clear hbW hlen hB
        by_cases hfew : (pre.length : Int) = few
        · subst hfew
          gi_wp2_with fail
          exact ⟨KeepsOthers.refl _, .inl ⟨rfl, HB.out⟩⟩
        · have hfew' : ((pre.length : Int) == few) = false := beq_eq_false_iff_ne.2 hfew
          have hw1 : IntKind.i64.wrap ((i : Int) - (keep : Int)) = (i : Int) - (keep : Int) := by rw [IntKind.wrap_i64]; omega
          have hw2 : IntKind.i64.wrap (max ((i : Int) - (keep : Int)) 0 + (pre.length : Int)) = max ((i : Int) - (keep : Int)) 0 + (pre.length : Int) := by rw [IntKind.wrap_i64]; omega
          have hw3 : IntKind.u64.wrap (max ((i : Int) - (keep : Int)) 0 + (pre.length : Int)) = max ((i : Int) - (keep : Int)) 0 + (pre.length : Int) := by rw [IntKind.wrap_u64]; omega
          by_cases hxv : x.1.1 = (i - keep) + pre.length
          · have hxv' : (x.1.1 : Int) = max ((i : Int) - (keep : Int)) 0 + (pre.length : Int) := by omega
            have hw4 : IntKind.i64.wrap ((pre.length : Int) + 1) = (pre.length : Int) + 1 := by rw [IntKind.wrap_i64]; omega
            gi_wp2_with fail
            all_goals
              refine ⟨KeepsOthers.setCell _ _ _, (Below.refl _ W).setCell (p := ⟨wr.heap.size, 0, none⟩) (Nat.le_refl _) _, ⟨?_, ?_⟩, HB.out.setCell (p := ⟨wr.heap.size, 0, none⟩) (Nat.le_refl _) _⟩
              · rw [show (((pre ++ [x]).length : Nat) : Int) = (pre.length : Int) + 1 from by simp]
                exact World.cell?_setCell_same' _ _ _ (by rw [hc]; rfl)
              · rw [World.frozen?_setCell]; exact hf
          · have hxv' : ((x.1.1 : Int) == max ((i : Int) - (keep : Int)) 0 + (pre.length : Int)) = false := beq_eq_false_iff_ne.2 (by omega)
            have hxv2 : ¬ (x.1.1 : Int) = max ((i : Int) - (keep : Int)) 0 + (pre.length : Int) := by omega
            gi_wp2_with fail
            all_goals exact ⟨KeepsOthers.setCell _ _ _, .inr ⟨rfl, pre, x, rfl, hxv⟩⟩
      case stop =>
        rintro D c pre W hD hSp hX hK
        obtain ⟨rfl, hB⟩ | ⟨-, pre', x, rfl, hx⟩ := hX
        rotate_left
        · exfalso
          obtain ⟨tl, htl⟩ := hSp
          have h1 : (toldL keep 0 (List.replicate i (some (⟨a, 0, none⟩ : Addr))))[pre'.length]? = some x.1 := by
            rw [← htl, List.map_append, List.append_assoc, List.getElem?_append_right (by simp)]; simp
          have hlt : pre'.length < min (List.replicate i (some (⟨a, 0, none⟩ : Addr))).length keep := by
            rw [← toldL_len keep 0]; exact (List.getElem?_eq_some_iff.1 h1).1
          rw [toldL_at hlt] at h1
          simp only [Option.some.injEq] at h1
          apply hx
          rw [← h1]
          unfold gone
          rw [List.length_replicate]
          omega
        have hLW : LogAt W L R keep 0 ((List.replicate i (some (⟨a, 0, none⟩ : Addr))).map .pointer) := HLr.out.agree (Agree.of_below hB (F := Lt wr.heap.size) fun _ h => h) HLs.1 HLs.2
        have hbW := HBr.out.below hB hb3
        have hbb : Blk W w1.heap.size 23 #[logV L] := HBBr.out.agree (Agree.of_below hB (F := Lt wr.heap.size) fun _ h => h) HBBr.out.lt
        have hla : IsB W a := by
          obtain ⟨cs, t, hc⟩ := HLAr.out
          exact ⟨cs, t, (hB.block a (Array.getElem?_eq_some_iff.1 hc).1).trans hc⟩
        have hle : ∀ q ∈ List.replicate i (some (⟨a, 0, none⟩ : Addr)), Leads W q := fun q hq => by
          rw [List.eq_of_mem_replicate hq]
          intro x e
          cases e
          exact hla
        have HST2 := Lib.hid (all_log hLW hle w1.heap.size (hbb.cell 0) hbb.lt (6 - 1) (by decide))
        have HLW := Lib.hid hLW
        have HBW := Lib.hid hbW
        have hltW := hbW.lt
        have hDl : D < W.heap.size := (Array.getElem?_eq_some_iff.1 hK).1
        have HB := Lib.hid hB
        have HK := Lib.hid hK
        have hsW := hB.size
        have hB1 : Below W.heap.size W (W.alloc (.cells #[.int .i64 0] 3)) := (Below.refl _ _).alloc (Nat.le_refl _) _
        have HS1 := Lib.hid (Blk.new W 3 #[.int .i64 0])
        have HB1 := Lib.hid hB1
        clear hB hK hSp hLW hbW hbb hla hle hB1
        gi_wp2_with fail
        refine wpIn_rangeFunc_ownF rfl (by decide) (gf := 96) (lb := #[.pointer (some ⟨w1.heap.size, 0, none⟩)]) rfl trivial (enters_of Try.func96 (by kernel_rfl) rfl)
          HST2.out belowK_t (belowK_b (by simp)) HB1.out (fun _ => rfl)
          (LeftI W) (fun _ _ _ => False) (LeftI.own (by simp)) (fun _ _ _ _ _ hs _ _ => hs)
          ⟨⟨HS1.out.cell 0, HS1.out.frozen 0⟩, HB1.out⟩
          ?a1x ?assignx ?bodyx ?donex ?stopx
        case assignx =>
          intro l x W K hK
          have HK := Lib.hid hK
          clear hK
          gi_wp2_with fail
          exact HK.out
        case bodyx =>
          rintro l pre x W2 ⟨⟨hc, hf⟩, hB⟩ hlen
          have hlen' : pre.length < 100 := by rw [List.length_replicate] at hlen; omega
          have hw4 : IntKind.i64.wrap ((pre.length : Int) + 1) = (pre.length : Int) + 1 := by rw [IntKind.wrap_i64]; omega
          have HB2 := Lib.hid hB
          clear hB hlen
          gi_wp2_with fail
          refine ⟨KeepsOthers.setCell _ _ _, (Below.refl _ W2).setCell (p := ⟨W.heap.size, 0, none⟩) (Nat.le_refl _) _, ⟨?_, ?_⟩, HB2.out.setCell (p := ⟨W.heap.size, 0, none⟩) (Nat.le_refl _) _⟩
          · rw [show (((pre ++ [x]).length : Nat) : Int) = (pre.length : Int) + 1 from by simp]
            exact World.cell?_setCell_same' _ _ _ (by rw [hc]; rfl)
          · rw [World.frozen?_setCell]; exact hf
        case stopx =>
          rintro D c pre W _ _ h _
          exact h.elim
        case donex =>
          rintro D2 ys W3 hD2 hys ⟨⟨hc3, hf3⟩, hB3⟩ hK2
          have hyl : ys.length = min i keep := by
            have := congrArg List.length hys
            rw [List.length_map, toldL_len, List.length_replicate] at this
            exact this
          have hyl' : (ys.length : Int) = min (i : Int) (keep : Int) := by omega
          have hb3' := HBW.out.below hB3 hltW
          have cn := hb3'.cn
          have ck := hb3'.ck
          have hDD := (hB3.block D hDl).trans HK.out
          have HB3 := Lib.hid hB3
          have HBW3 := Lib.hid hb3'
          have HK2 := Lib.hid hK2
          have HDD := Lib.hid hDD
          have hD2l : D2 < W3.heap.size := (Array.getElem?_eq_some_iff.1 hK2).1
          clear hys hB3 hb3' hDD hK2
          gi_wp2_with fail
          all_goals
            refine ⟨trivial, ?_⟩
            refine (callsIn_wide.2 (known19 W3)).mono ?_
            rintro e w5 ⟨rfl, hx5⟩
            have hbw := HBW3.out.ext hx5
            have fr5 := hbw.fr
            have cr5 := hbw.cr
            have hlt5 := hbw.lt
            have HD1 := Lib.hid ((hx5.heap (show D < W3.heap.size from (Array.getElem?_eq_some_iff.1 HDD.out).1)).trans HDD.out)
            have HD2 := Lib.hid ((hx5.heap hD2l).trans HK2.out)
            have HX5 := Lib.hid hx5
            clear hx5 hbw
            gi_wp2_with fail
            have h2 := (KeepsOthers.setCell w5 ⟨w.heap.size + 1 + 1 + 1, 0, none⟩ (.bool true)).same D2 _ HD2.out rfl
            have h1 := (KeepsOthers.setCell w5 ⟨w.heap.size + 1 + 1 + 1, 0, none⟩ (.bool true)).same D _ HD1.out rfl
            have hc6 := World.cell?_setCell_same w5 ⟨w.heap.size + 1 + 1 + 1, 0, none⟩ (.bool true) cr5
            have hb6 : Below w.heap.size w (w5.setCell ⟨w.heap.size + 1 + 1 + 1, 0, none⟩ (.bool true)) := ((((HXr.out.below.trans (HB.out.mono HXr.out.size)).trans (HB3.out.mono (Nat.le_trans HXr.out.size HB.out.size))).trans (HX5.out.below.mono (Nat.le_trans HXr.out.size (Nat.le_trans HB.out.size HB3.out.size)))).setCell (p := ⟨w.heap.size + 1 + 1 + 1, 0, none⟩) (by show w.heap.size ≤ w.heap.size + 1 + 1 + 1; omega) _)
            generalize w5.setCell ⟨w.heap.size + 1 + 1 + 1, 0, none⟩ (.bool true) = w6 at *
            have hwD2 : W.heap.size ≤ D2 := by simp at hD2; omega
            have hwD : w.heap.size ≤ D := by have := HXr.out.size; simp at hD; omega
            have hne : D ≠ D2 := by omega
            refine ⟨by simp, .inl ⟨_, _, rfl, run_takeDeferred h2, ?_⟩⟩
            have hc7 := cell_kept hc6 (grownBy_putObj' _ D2 (.deferred none)) (fun r e => by cases e; exact ⟨_, h2, rfl⟩)
            have h1' : (w6.putObj D2 (.deferred none)).heap[D]? = some (.deferred (some [])) := (World.putObj_heap_other hne).trans h1
            have hb7 := hb6.trans (belowK_b (w := w) (Nat.le_refl _) w6 D2 _ (.deferred none) (by omega) h2 rfl rfl)
            refine ⟨by simp, .inl ⟨_, _, rfl, run_takeDeferred h1', ?_⟩⟩
            have hc8 := cell_kept hc7 (grownBy_putObj' _ D (.deferred none)) (fun r e => by cases e; exact ⟨_, h1', rfl⟩)
            have hb8 := hb7.trans (belowK_b (w := w) (Nat.le_refl _) _ D _ (.deferred none) hwD h1' rfl rfl)
            refine ⟨.bool true, ?_, rfl, hb8⟩
            simp [results, Try.f6, go_sem, hc8]
      case done =>
        rintro D ys W hD hSp ⟨-, hB⟩ hK
        have hLW : LogAt W L R keep 0 ((List.replicate i (some (⟨a, 0, none⟩ : Addr))).map .pointer) := HLr.out.agree (Agree.of_below hB (F := Lt wr.heap.size) fun _ h => h) HLs.1 HLs.2
        have hbW := HBr.out.below hB hb3
        have hbb : Blk W w1.heap.size 23 #[logV L] := HBBr.out.agree (Agree.of_below hB (F := Lt wr.heap.size) fun _ h => h) HBBr.out.lt
        have hla : IsB W a := by
          obtain ⟨cs, t, hc⟩ := HLAr.out
          exact ⟨cs, t, (hB.block a (Array.getElem?_eq_some_iff.1 hc).1).trans hc⟩
        have hle : ∀ q ∈ List.replicate i (some (⟨a, 0, none⟩ : Addr)), Leads W q := fun q hq => by
          rw [List.eq_of_mem_replicate hq]
          intro x e
          cases e
          exact hla
        have HST2 := Lib.hid (all_log hLW hle w1.heap.size (hbb.cell 0) hbb.lt (6 - 1) (by decide))
        have HLW := Lib.hid hLW
        have HBW := Lib.hid hbW
        have hltW := hbW.lt
        have hDl : D < W.heap.size := (Array.getElem?_eq_some_iff.1 hK).1
        have HB := Lib.hid hB
        have HK := Lib.hid hK
        have hsW := hB.size
        have hB1 : Below W.heap.size W (W.alloc (.cells #[.int .i64 0] 3)) := (Below.refl _ _).alloc (Nat.le_refl _) _
        have HS1 := Lib.hid (Blk.new W 3 #[.int .i64 0])
        have HB1 := Lib.hid hB1
        clear hB hK hSp hLW hbW hbb hla hle hB1
        gi_wp2_with fail
        refine wpIn_rangeFunc_ownF rfl (by decide) (gf := 96) (lb := #[.pointer (some ⟨w1.heap.size, 0, none⟩)]) rfl trivial (enters_of Try.func96 (by kernel_rfl) rfl)
          HST2.out belowK_t (belowK_b (by simp)) HB1.out (fun _ => rfl)
          (LeftI W) (fun _ _ _ => False) (LeftI.own (by simp)) (fun _ _ _ _ _ hs _ _ => hs)
          ⟨⟨HS1.out.cell 0, HS1.out.frozen 0⟩, HB1.out⟩
          ?a1y ?assigny ?bodyy ?doney ?stopy
        case assigny =>
          intro l x W K hK
          have HK := Lib.hid hK
          clear hK
          gi_wp2_with fail
          exact HK.out
        case bodyy =>
          rintro l pre x W2 ⟨⟨hc, hf⟩, hB⟩ hlen
          have hlen' : pre.length < 100 := by rw [List.length_replicate] at hlen; omega
          have hw4 : IntKind.i64.wrap ((pre.length : Int) + 1) = (pre.length : Int) + 1 := by rw [IntKind.wrap_i64]; omega
          have HB2 := Lib.hid hB
          clear hB hlen
          gi_wp2_with fail
          refine ⟨KeepsOthers.setCell _ _ _, (Below.refl _ W2).setCell (p := ⟨W.heap.size, 0, none⟩) (Nat.le_refl _) _, ⟨?_, ?_⟩, HB2.out.setCell (p := ⟨W.heap.size, 0, none⟩) (Nat.le_refl _) _⟩
          · rw [show (((pre ++ [x]).length : Nat) : Int) = (pre.length : Int) + 1 from by simp]
            exact World.cell?_setCell_same' _ _ _ (by rw [hc]; rfl)
          · rw [World.frozen?_setCell]; exact hf
        case stopy =>
          rintro D c pre W _ _ h _
          exact h.elim
        case doney =>
          rintro D2 ys W3 hD2 hys ⟨⟨hc3, hf3⟩, hB3⟩ hK2
          have hyl : ys.length = min i keep := by
            have := congrArg List.length hys
            rw [List.length_map, toldL_len, List.length_replicate] at this
            exact this
          have hyl' : (ys.length : Int) = min (i : Int) (keep : Int) := by omega
          have hb3' := HBW.out.below hB3 hltW
          have cn := hb3'.cn
          have ck := hb3'.ck
          have hDD := (hB3.block D hDl).trans HK.out
          have HB3 := Lib.hid hB3
          have HBW3 := Lib.hid hb3'
          have HK2 := Lib.hid hK2
          have HDD := Lib.hid hDD
          have hD2l : D2 < W3.heap.size := (Array.getElem?_eq_some_iff.1 hK2).1
          clear hys hB3 hb3' hDD hK2
          gi_wp2_with fail
          all_goals
            refine ⟨trivial, ?_⟩
            refine (callsIn_wide.2 (known19 W3)).mono ?_
            rintro e w5 ⟨rfl, hx5⟩
            have hbw := HBW3.out.ext hx5
            have fr5 := hbw.fr
            have cr5 := hbw.cr
            have hlt5 := hbw.lt
            have HD1 := Lib.hid ((hx5.heap (show D < W3.heap.size from (Array.getElem?_eq_some_iff.1 HDD.out).1)).trans HDD.out)
            have HD2 := Lib.hid ((hx5.heap hD2l).trans HK2.out)
            have HX5 := Lib.hid hx5
            clear hx5 hbw
            gi_wp2_with fail
            have h2 := (KeepsOthers.setCell w5 ⟨w.heap.size + 1 + 1 + 1, 0, none⟩ (.bool true)).same D2 _ HD2.out rfl
            have h1 := (KeepsOthers.setCell w5 ⟨w.heap.size + 1 + 1 + 1, 0, none⟩ (.bool true)).same D _ HD1.out rfl
            have hc6 := World.cell?_setCell_same w5 ⟨w.heap.size + 1 + 1 + 1, 0, none⟩ (.bool true) cr5
            have hb6 : Below w.heap.size w (w5.setCell ⟨w.heap.size + 1 + 1 + 1, 0, none⟩ (.bool true)) := ((((HXr.out.below.trans (HB.out.mono HXr.out.size)).trans (HB3.out.mono (Nat.le_trans HXr.out.size HB.out.size))).trans (HX5.out.below.mono (Nat.le_trans HXr.out.size (Nat.le_trans HB.out.size HB3.out.size)))).setCell (p := ⟨w.heap.size + 1 + 1 + 1, 0, none⟩) (by show w.heap.size ≤ w.heap.size + 1 + 1 + 1; omega) _)
            generalize w5.setCell ⟨w.heap.size + 1 + 1 + 1, 0, none⟩ (.bool true) = w6 at *
            have hwD2 : W.heap.size ≤ D2 := by simp at hD2; omega
            have hwD : w.heap.size ≤ D := by have := HXr.out.size; simp at hD; omega
            have hne : D ≠ D2 := by omega
            refine ⟨by simp, .inl ⟨_, _, rfl, run_takeDeferred h2, ?_⟩⟩
            have hc7 := cell_kept hc6 (grownBy_putObj' _ D2 (.deferred none)) (fun r e => by cases e; exact ⟨_, h2, rfl⟩)
            have h1' : (w6.putObj D2 (.deferred none)).heap[D]? = some (.deferred (some [])) := (World.putObj_heap_other hne).trans h1
            have hb7 := hb6.trans (belowK_b (w := w) (Nat.le_refl _) w6 D2 _ (.deferred none) (by omega) h2 rfl rfl)
            refine ⟨by simp, .inl ⟨_, _, rfl, run_takeDeferred h1', ?_⟩⟩
            have hc8 := cell_kept hc7 (grownBy_putObj' _ D (.deferred none)) (fun r e => by cases e; exact ⟨_, h1', rfl⟩)
            have hb8 := hb7.trans (belowK_b (w := w) (Nat.le_refl _) _ D _ (.deferred none) hwD h1' rfl rfl)
            refine ⟨.bool true, ?_, rfl, hb8⟩
            simp [results, Try.f6, go_sem, hc8]

set_option maxRecDepth 100000 in
set_option maxHeartbeats 1000000 in
theorem left_else (n keep few : Int) (h : ¬ (0 ≤ n ∧ n ≤ 100 ∧ 1 ≤ keep ∧ keep ≤ 100)) (w : World) :
    Calls Try.prog 6 #[.int .i64 n, .int .i64 keep, .int .i64 few] w fun e w' => e = .returned (.bool true) ∧ Below w.heap.size w w' := by
  by_cases h0 : n < 0
  · have g0 : decide (n < 0) = true := decide_eq_true h0
    go_enter Try.func6, Try.ntmps6
    go_wp2_with fail
    have hx0 : Ext w ((((w.alloc (.cells #[.int .i64 n] 3)).alloc (.cells #[.int .i64 keep] 3)).alloc (.cells #[.int .i64 few] 3)).alloc (.cells #[.bool false] 4)) := ((((Ext.refl w).alloc _ _).alloc _ _).alloc _ _).alloc _ _
    have hb0 : Blk ((((w.alloc (.cells #[.int .i64 n] 3)).alloc (.cells #[.int .i64 keep] 3)).alloc (.cells #[.int .i64 few] 3)).alloc (.cells #[.bool false] 4)) (w.heap.size + 1 + 1 + 1) 4 #[.bool false] := by
      have := Blk.new (((w.alloc (.cells #[.int .i64 n] 3)).alloc (.cells #[.int .i64 keep] 3)).alloc (.cells #[.int .i64 few] 3)) 4 #[.bool false]
      simpa only [World.size_alloc] using this
    generalize (((w.alloc (.cells #[.int .i64 n] 3)).alloc (.cells #[.int .i64 keep] 3)).alloc (.cells #[.int .i64 few] 3)).alloc (.cells #[.bool false] 4) = W0 at *
    refine (known19 W0).mono ?_
    rintro e w1 ⟨rfl, hx1⟩
    have hc := (hb0.ext hx1).cell 0
    have hf := (hb0.ext hx1).frozen 0
    have hl := (hb0.ext hx1).lt
    have HX := Lib.hid (hx0.trans hx1)
    clear hx0 hx1 hb0
    go_wp2_with fail
    have hc6 := World.cell?_setCell_same w1 ⟨w.heap.size + 1 + 1 + 1, 0, none⟩ (.bool true) hc
    refine bodyPost_ret (v := .bool true) (by simp [results, Try.f6, go_sem, hc6]) rfl ⟨rfl, HX.out.below.setCell (p := ⟨w.heap.size + 1 + 1 + 1, 0, none⟩) (by show w.heap.size ≤ w.heap.size + 1 + 1 + 1; omega) _⟩
  have g0 : decide (n < 0) = false := decide_eq_false h0
  by_cases h1 : 100 < n
  · have g1 : decide (100 < n) = true := decide_eq_true h1
    go_enter Try.func6, Try.ntmps6
    go_wp2_with fail
    have hx0 : Ext w ((((w.alloc (.cells #[.int .i64 n] 3)).alloc (.cells #[.int .i64 keep] 3)).alloc (.cells #[.int .i64 few] 3)).alloc (.cells #[.bool false] 4)) := ((((Ext.refl w).alloc _ _).alloc _ _).alloc _ _).alloc _ _
    have hb0 : Blk ((((w.alloc (.cells #[.int .i64 n] 3)).alloc (.cells #[.int .i64 keep] 3)).alloc (.cells #[.int .i64 few] 3)).alloc (.cells #[.bool false] 4)) (w.heap.size + 1 + 1 + 1) 4 #[.bool false] := by
      have := Blk.new (((w.alloc (.cells #[.int .i64 n] 3)).alloc (.cells #[.int .i64 keep] 3)).alloc (.cells #[.int .i64 few] 3)) 4 #[.bool false]
      simpa only [World.size_alloc] using this
    generalize (((w.alloc (.cells #[.int .i64 n] 3)).alloc (.cells #[.int .i64 keep] 3)).alloc (.cells #[.int .i64 few] 3)).alloc (.cells #[.bool false] 4) = W0 at *
    refine (known19 W0).mono ?_
    rintro e w1 ⟨rfl, hx1⟩
    have hc := (hb0.ext hx1).cell 0
    have hf := (hb0.ext hx1).frozen 0
    have hl := (hb0.ext hx1).lt
    have HX := Lib.hid (hx0.trans hx1)
    clear hx0 hx1 hb0
    go_wp2_with fail
    have hc6 := World.cell?_setCell_same w1 ⟨w.heap.size + 1 + 1 + 1, 0, none⟩ (.bool true) hc
    refine bodyPost_ret (v := .bool true) (by simp [results, Try.f6, go_sem, hc6]) rfl ⟨rfl, HX.out.below.setCell (p := ⟨w.heap.size + 1 + 1 + 1, 0, none⟩) (by show w.heap.size ≤ w.heap.size + 1 + 1 + 1; omega) _⟩
  have g1 : decide (100 < n) = false := decide_eq_false h1
  by_cases h2 : keep < 1
  · have g2 : decide (keep < 1) = true := decide_eq_true h2
    go_enter Try.func6, Try.ntmps6
    go_wp2_with fail
    have hx0 : Ext w ((((w.alloc (.cells #[.int .i64 n] 3)).alloc (.cells #[.int .i64 keep] 3)).alloc (.cells #[.int .i64 few] 3)).alloc (.cells #[.bool false] 4)) := ((((Ext.refl w).alloc _ _).alloc _ _).alloc _ _).alloc _ _
    have hb0 : Blk ((((w.alloc (.cells #[.int .i64 n] 3)).alloc (.cells #[.int .i64 keep] 3)).alloc (.cells #[.int .i64 few] 3)).alloc (.cells #[.bool false] 4)) (w.heap.size + 1 + 1 + 1) 4 #[.bool false] := by
      have := Blk.new (((w.alloc (.cells #[.int .i64 n] 3)).alloc (.cells #[.int .i64 keep] 3)).alloc (.cells #[.int .i64 few] 3)) 4 #[.bool false]
      simpa only [World.size_alloc] using this
    generalize (((w.alloc (.cells #[.int .i64 n] 3)).alloc (.cells #[.int .i64 keep] 3)).alloc (.cells #[.int .i64 few] 3)).alloc (.cells #[.bool false] 4) = W0 at *
    refine (known19 W0).mono ?_
    rintro e w1 ⟨rfl, hx1⟩
    have hc := (hb0.ext hx1).cell 0
    have hf := (hb0.ext hx1).frozen 0
    have hl := (hb0.ext hx1).lt
    have HX := Lib.hid (hx0.trans hx1)
    clear hx0 hx1 hb0
    go_wp2_with fail
    have hc6 := World.cell?_setCell_same w1 ⟨w.heap.size + 1 + 1 + 1, 0, none⟩ (.bool true) hc
    refine bodyPost_ret (v := .bool true) (by simp [results, Try.f6, go_sem, hc6]) rfl ⟨rfl, HX.out.below.setCell (p := ⟨w.heap.size + 1 + 1 + 1, 0, none⟩) (by show w.heap.size ≤ w.heap.size + 1 + 1 + 1; omega) _⟩
  have g2 : decide (keep < 1) = false := decide_eq_false h2
  have h3 : 100 < keep := by
    by_cases h' : 100 < keep
    · exact h'
    · exact absurd ⟨Int.not_lt.1 h0, Int.not_lt.1 h1, Int.not_lt.1 h2, Int.not_lt.1 h'⟩ h
  have g3 : decide (100 < keep) = true := decide_eq_true h3
  go_enter Try.func6, Try.ntmps6
  go_wp2_with fail
  have hx0 : Ext w ((((w.alloc (.cells #[.int .i64 n] 3)).alloc (.cells #[.int .i64 keep] 3)).alloc (.cells #[.int .i64 few] 3)).alloc (.cells #[.bool false] 4)) := ((((Ext.refl w).alloc _ _).alloc _ _).alloc _ _).alloc _ _
  have hb0 : Blk ((((w.alloc (.cells #[.int .i64 n] 3)).alloc (.cells #[.int .i64 keep] 3)).alloc (.cells #[.int .i64 few] 3)).alloc (.cells #[.bool false] 4)) (w.heap.size + 1 + 1 + 1) 4 #[.bool false] := by
    have := Blk.new (((w.alloc (.cells #[.int .i64 n] 3)).alloc (.cells #[.int .i64 keep] 3)).alloc (.cells #[.int .i64 few] 3)) 4 #[.bool false]
    simpa only [World.size_alloc] using this
  generalize (((w.alloc (.cells #[.int .i64 n] 3)).alloc (.cells #[.int .i64 keep] 3)).alloc (.cells #[.int .i64 few] 3)).alloc (.cells #[.bool false] 4) = W0 at *
  refine (known19 W0).mono ?_
  rintro e w1 ⟨rfl, hx1⟩
  have hc := (hb0.ext hx1).cell 0
  have hf := (hb0.ext hx1).frozen 0
  have hl := (hb0.ext hx1).lt
  have HX := Lib.hid (hx0.trans hx1)
  clear hx0 hx1 hb0
  go_wp2_with fail
  have hc6 := World.cell?_setCell_same w1 ⟨w.heap.size + 1 + 1 + 1, 0, none⟩ (.bool true) hc
  refine bodyPost_ret (v := .bool true) (by simp [results, Try.f6, go_sem, hc6]) rfl ⟨rfl, HX.out.below.setCell (p := ⟨w.heap.size + 1 + 1 + 1, 0, none⟩) (by show w.heap.size ≤ w.heap.size + 1 + 1 + 1; omega) _⟩

theorem logleft_w (a0 a1 a2 : Int) (w0 : (Lit.int .i64 a0).wf = true) (w1 : (Lit.int .i64 a1).wf = true) (w2 : (Lit.int .i64 a2).wf = true) (w : World) :
    Calls Try.prog 6 #[.int .i64 a0, .int .i64 a1, .int .i64 a2] w fun e w' => e = .returned (.bool true) ∧ Below w.heap.size w w' := by
  by_cases h : 0 ≤ a0 ∧ a0 ≤ 100 ∧ 1 ≤ a1 ∧ a1 ≤ 100
  · obtain ⟨h1, h2, h3, h4⟩ := h
    obtain ⟨n, rfl⟩ := Int.eq_ofNat_of_zero_le h1
    obtain ⟨keep, rfl⟩ := Int.eq_ofNat_of_zero_le (show 0 ≤ a1 by omega)
    exact left_main n keep a2 (by omega) (by omega) (by omega) w
  · exact left_else a0 a1 a2 h w
end Go.Proofs.Ytpapoalgocmlaaa
