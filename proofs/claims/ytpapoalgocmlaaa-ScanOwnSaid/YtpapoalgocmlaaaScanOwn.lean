/- ScanOwn: what the functions hand is the caller's own. -/
import Derived.Test.YtpapoalgocmlaaaLaw8B
import Derived.Test.YtpapoalgocmlaaaColl3
import Derived.Test.YtpapoalgocmlaaaScanK2
namespace Go.Proofs.Ytpapoalgocmlaaa
open Go.RowKit Go.Shelf
set_option linter.unusedVariables false
set_option linter.unusedSimpArgs false
attribute [local go_sem] Oper.semAt_some

/-- All blocks of before are as they were, but for one. -/
structure BX (r : Nat) (w w' : World) : Prop where
  os : w'.os = w.os
  tape : w'.tape = w.tape
  output : w'.output = w.output
  size : w.heap.size ≤ w'.heap.size
  block : ∀ b, b < w.heap.size → b ≠ r → w'.heap[b]? = w.heap[b]?
theorem BX.of_below {r : Nat} {w w' : World} (h : Below w.heap.size w w') : BX r w w' := ⟨h.os, h.tape, h.output, h.size, fun b hb _ => h.block b hb⟩
theorem BX.cell {r : Nat} {w w' : World} (h : BX r w w') {b o : Nat} (hb : b < w.heap.size) (hn : b ≠ r) : w'.cell? ⟨b, o, none⟩ = w.cell? ⟨b, o, none⟩ := World.cell?_of_block (w := w) (a := ⟨b, o, none⟩) (h.block b hb hn)
theorem BX.below {r : Nat} {a b c : World} (h : BX r a b) (k : Below b.heap.size b c) : BX r a c := ⟨k.os.trans h.os, k.tape.trans h.tape, k.output.trans h.output, Nat.le_trans h.size k.size, fun i hi hn => (k.block i (Nat.lt_of_lt_of_le hi h.size)).trans (h.block i hi hn)⟩
theorem BX.set {r : Nat} {a b : World} (h : BX r a b) {o : Nat} (u : Value) : BX r a (b.setCell ⟨r, o, none⟩ u) :=
  ⟨h.os, h.tape, h.output, by simpa [World.setCell] using h.size, fun i hi hn => (Below.heap_setCell b ⟨r, o, none⟩ u i (by intro e; exact hn e)).trans (h.block i hi hn)⟩
theorem at_own {k : ByteArray} {n : Int} {W : World} {e : Ending} {w' : World} (h : AtIPost (some (k, listV n)) W e w') :
    ∃ (b o c : Nat) (so : Sl), e = .returned (.tuple #[.agg #[.string k, .int .i64 5, .bool false, .int .i64 0, .string ByteArray.empty, .slice (some ⟨b, o, none⟩) 1 c, .slice so.a 0 so.c], .bool true]) ∧ Ext W w' ∧ In W.heap.size w'.heap.size b ∧ 1 ≤ c ∧ c ≤ maxLen ∧ w'.cell? ⟨b, o + 2, none⟩ = some (.int .i64 n) := by
  obtain ⟨sl, so, rfl, hx, hr⟩ := h
  obtain ⟨b, o, c, rfl, hb, h1, h2, hc⟩ := one_list hr
  exact ⟨b, o, c, so, rfl, hx, hb, h1, h2, hc⟩
set_option maxRecDepth 100000 in
set_option maxHeartbeats 16000000 in
theorem scanown_any (k : ByteArray) (n : Int) (hk : k.size ≤ maxLen) (wn : (Lit.int .i64 n).wf = true) (w : World) : Calls Try.prog 16 #[.string k, .int .i64 n] w fun e w' => e = .returned (.bool true) ∧ Below w.heap.size w w' := by
  refine (callsIn_wide (n := 6)).1 ?_
  refine callsIn_of_wp_marks Try.func16 rfl trivial ?_ rfl
  simp only [Try.ntmps16, List.size_toArray, List.length_cons, List.length_nil, Nat.reduceAdd, Nat.reduceSub, Array.replicate_succ, Array.replicate_zero, List.push_toArray, List.append_toArray, List.nil_append, List.cons_append]
  gi_wp2_with fail
  generalize hW0 : World.alloc _ _ = W0
  obtain ⟨hx0, hz0, hb0, hb1, hb2, hb3⟩ := four_blocks w _ _ _ _ _ _ _ _ W0 hW0
  have hrv := rv_list (F := Lt W0.heap.size) (n := n) hb2 hb2.lt wn
  have hes : ES W0 (Lt W0.heap.size) ⟨some ⟨w.heap.size + 1 + 1 + 1, 0, none⟩, 1⟩ [⟨k, listV n, ⟨some ⟨w.heap.size + 1 + 1, 0, none⟩, 1⟩, Sl.none⟩] := ES.single hb3 hb3.lt hrv hk
  have hbu := build_any hes (show 1 ≤ 100000 by omega)
  have HBU := Lib.hid hbu
  have HB0 := Lib.hid hb0
  have HB1 := Lib.hid hb1
  have HX0 := Lib.hid hx0
  clear hW0 hx0 hrv hes hbu hb0 hb1 hb2 hb3
  refine ⟨trivial, ?_⟩
  refine (callsIn_wide.2 HBU.out).mono ?_
  rintro e w1 ⟨T, rfl, hbt, hT, hx1⟩
  obtain ⟨p, hp⟩ := rootV_ptr T
  dsimp only [treeV]
  rw [hp]
  have HT := Lib.hid hT
  have HBT := Lib.hid hbt
  have HP := Lib.hid hp
  have HX1 := Lib.hid hx1
  have HB0' := Lib.hid (HB0.out.ext hx1)
  have HB1' := Lib.hid (HB1.out.ext hx1)
  have hs01 := hx1.size
  clear hT hbt hp hx1
  gi_wp2_with fail
  generalize hW2 : World.alloc (World.alloc w1 _) _ = W2
  obtain ⟨hx2, hz2, hbT, hbS⟩ := two_blocks w1 _ _ _ _ W2 hW2
  have HX2 := Lib.hid hx2
  have HBT2 := Lib.hid hbT
  have HBS2 := Lib.hid hbS
  have HN2 := Lib.hid (HB0'.out.ext hx2)
  have HR2 := Lib.hid (HB1'.out.ext hx2)
  have hAL : Calls Try.prog 64 #[.agg #[.pointer p]] W2 (RangePost T ByteArray.empty ByteArray.empty true W2) := by
    have := all_any8 W2 T
    rwa [treeV, HP.out] at this
  have HAL := Lib.hid hAL
  have HNI := Lib.hid (fun (W : World) B => eql_func_nil3 (P := Try.prog) W (t := 96) (.func 105) #[] (rangeL B) Try.underlying96)
  have ct : W2.cell? ⟨w1.heap.size, 0, none⟩ = some (.pointer p) := hbT.cell 0
  have lt2 := hbT.lt
  clear hW2 hx2 hbT hbS hAL HBU
  try gi_wp2_with fail
  refine ⟨trivial, ?_⟩
  refine (callsIn_wide.2 HAL.out).mono ?_
  rintro e w3 ⟨B, rfl, hx3, hrb3, hB⟩
  have HX3 := Lib.hid hx3
  have HRB3 := Lib.hid hrb3
  have n3 := HNI.out w3 B
  have hs23 := hx3.size
  have hBl3 := hrb3.lt
  clear hx3 hrb3 ct lt2
  gi_wp2_with fail
  obtain ⟨t0, hT0, hte⟩ : ∃ t0 : PT 0, T = some ⟨0, t0⟩ ∧ t0.2 = [(k, listV n)] := by
    rcases built_small HBT.out (List.pairwise_singleton _ _) (by simp) with ⟨h, -⟩ | h
    · simp at h
    · exact h
  have ok := HBT.out.both.1
  have hent : entsT T = [(k, listV n)] := by rw [hT0]; exact hte
  have htr3 : TreeAt (In W0.heap.size w1.heap.size) T w3 := ⟨HT.out.agree ((HX2.out.trans HX3.out).agree fun b hb => hb.2), fun b hb => by have := hb.2; omega⟩
  have hseq := range_seq2 (lo := ByteArray.empty) (hi := ByteArray.empty) (op := true) hT0 htr3 ok (by rw [hent]; show 1 ≤ 1000000; omega) HRB3.out
  rw [rangeE_all, hent] at hseq
  have HSQ := Lib.hid hseq
  have HOK := Lib.hid ok
  have HENT := Lib.hid hent
  have HTR3 := Lib.hid htr3
  have HS3 := Lib.hid (HBS2.out.ext HX3.out)
  have HN3 := Lib.hid (HN2.out.ext HX3.out)
  have hSl := HS3.out.lt
  have hNl := HN3.out.lt
  clear hT0 hte hseq ok hent htr3 n3
  refine wpIn_rangeC2 (gf := 105) (lb := rangeL B) rfl (enters_of Try.func105 (by kernel_rfl) rfl) HSQ.out (Agree.refl _) (Nat.le_refl _)
    (fun b hb => hb.elim (fun h => by have := h.2; omega) (fun h => by omega)) (fun _ => rfl)
    (fun pre C W => C = (fun b => b = w1.heap.size + 1) ∧ Blk W (w1.heap.size + 1) 3 #[.int .i64 pre.length] ∧ St (fun b => b = w1.heap.size + 1) w3 W) (fun _ _ _ => False) (fun b => b = w1.heap.size + 1)
    (fun b hb => ⟨by omega, fun h => h.elim (fun h => by have := h.2; omega) (fun h => by omega)⟩)
    (fun h k => ⟨h.1, k.blk h.2.1 (by omega), h.2.2.then k (fun b hb e => by omega)⟩) (fun h k => h) (fun W hW hz => ⟨rfl, HS3.out.ext hW, hW.st _⟩) ?round ?done ?stop
  case round =>
    rintro pre C x W0' Wm W1 ⟨rfl, hbs, hst⟩ hlt hsz hnL hx0m hxm1 hG
    obtain rfl : pre = [] := by
      have := (List.getElem?_eq_some_iff.1 hG.at_).1
      simp at this; exact this
    obtain ⟨xk, xv, xsl, xso⟩ := x
    have hxe : xv = listV n := by have := hG.at_; simp [LE.ent] at this; exact this.2.symm
    subst hxe
    obtain ⟨b, o, c, rfl, hbF, hc1, hc2, hcell⟩ := one_list hG.val
    have hx01 := hx0m.trans hxm1
    have hb3 := Blk.new W1 49 (cells6 ⟨xk, listV n, ⟨some ⟨b, o, none⟩, c⟩, xso⟩)
    have hx3 : Ext W1 (W1.alloc (.cells (cells6 ⟨xk, listV n, ⟨some ⟨b, o, none⟩, c⟩, xso⟩) 49)) := (Ext.refl W1).alloc _ _
    have HB3 := Lib.hid hb3
    have HX3' := Lib.hid hx3
    have HBS := Lib.hid hbs
    have HST := Lib.hid hst
    have HX01 := Lib.hid hx01
    have HCELL := Lib.hid hcell
    have HFREE := Lib.hid (hxm1.free b (o + 2) hbF.1)
    have hm0 := hx0m.size
    have hm1 := hxm1.size
    have hbF1 := hbF.1
    have hbF2 := hbF.2
    clear hb3 hx3 hbs hst hx01 hG hnL hlt hcell hx0m hxm1 hbF
    gi_wp2_with fail
    refine ⟨HX3'.out, fun W3 k3 => ?_⟩
    have h03 := ((HX01.out.trans HX3'.out).st _).trans k3
    have hs03 := h03.size
    have hz1 : (W1.alloc (.cells (cells6 ⟨xk, listV n, ⟨some ⟨b, o, none⟩, c⟩, xso⟩) 49)).heap.size = W1.heap.size + 1 := by simp
    have hbv := k3.blk HB3.out (by omega)
    have hgS := h03.blk HBS.out (by omega)
    have hgN := h03.blk (HST.out.blk HN3.out (by omega)) (by omega)
    have hcell3 : W3.cell? ⟨b, o + 2, none⟩ = some (.int .i64 n) := (k3.cell (Nat.lt_of_lt_of_le hbF2 HX3'.out.size) (show ¬ b = w3.heap.size + 1 by omega)).trans ((HX3'.out.cell hbF2).trans HCELL.out)
    have hfree3 : W3.frozen? ⟨b, o + 2, none⟩ = false := (k3.fz b (o + 2)).trans ((HX3'.out.fz b (o + 2)).trans HFREE.out)
    have cN : W3.cell? ⟨w.heap.size, 0, none⟩ = some (.int .i64 n) := hgN.cell 0
    have c4 : W3.cell? ⟨W1.heap.size, 4, none⟩ = some (.slice (some ⟨b, o, none⟩) 1 c) := hbv.cell 4
    have cS : W3.cell? ⟨w1.heap.size + 1, 0, none⟩ = some (.int .i64 0) := hgS.cell 0
    have fS := hgS.frozen 0
    have lS := hgS.lt
    have lN := hgN.lt
    have lv := hbv.lt
    have lb : b < W3.heap.size := by have := k3.size; omega
    have hbS : ¬ b = w1.heap.size + 1 := by omega
    have hbS' : ¬ w1.heap.size + 1 = b := by omega
    have H03 := Lib.hid h03
    have HGS := Lib.hid hgS
    have hcc : (1 : Nat) ≤ c := hc1
    clear k3 h03 hbv hgS hgN
    gi_wp2_with fail
    have st1 : St (fun x => x = b) W3 (W3.setCell ⟨b, o + 2, none⟩ (.int .i64 (wrap64 (n + 1)))) := (St.refl (fun x => x = b) W3).set (p := ⟨b, o + 2, none⟩) (.inr rfl) _
    have hbk := (st1.blk HGS.out (show ¬ w1.heap.size + 1 = b from hbS')).set_ 0 (.int .i64 1)
    have st2 : St (fun x => x = w1.heap.size + 1) (W3.setCell ⟨b, o + 2, none⟩ (.int .i64 (wrap64 (n + 1)))) ((W3.setCell ⟨b, o + 2, none⟩ (.int .i64 (wrap64 (n + 1)))).setCell ⟨w1.heap.size + 1, 0, none⟩ (.int .i64 1)) := (St.refl (fun x => x = w1.heap.size + 1) _).set (p := ⟨w1.heap.size + 1, 0, none⟩) (.inr rfl) _
    refine ⟨fun b => b = w1.heap.size + 1, ⟨rfl, hbk, ?_⟩, (st1.mono (G := fun i => i = w1.heap.size + 1 ∨ Wm.heap.size ≤ i) fun i _ hi => .inr (by omega)).trans (st2.mono fun i _ hi => .inl hi), fun i hi => .inl (.inl hi), fun i hi => by rw [World.size_setCell, World.size_setCell]; omega⟩
    have hall : St (fun i => i = w1.heap.size + 1 ∨ w3.heap.size ≤ i) w3 ((W3.setCell ⟨b, o + 2, none⟩ (.int .i64 (wrap64 (n + 1)))).setCell ⟨w1.heap.size + 1, 0, none⟩ (.int .i64 1)) :=
      (((HST.out.mono fun i _ hi => .inl hi).trans (H03.out.mono fun i _ hi => .inr (by omega))).trans (st1.mono fun i _ hi => .inr (by omega))).trans (st2.mono fun i _ hi => .inl hi)
    exact hall.mono fun i hl hi => hi.elim id (by omega)
  case stop =>
    rintro D c pre W hD hSp hX hDk
    exact hX.elim
  case done =>
    rintro D xs' C W hD hS ⟨rfl, hbs, hst⟩ hDk
    have hxl : xs'.length = 1 := by have := congrArg List.length hS; simpa using this
    rw [hxl] at hbs
    have htW : TreeAt (In W0.heap.size w1.heap.size) T W := ⟨HTR3.out.1.agree (hst.agree.mono fun b hb => ⟨by have := hb.2; omega, by have := hb.2; omega⟩), fun b hb => by have := hb.2; have := hst.size; omega⟩
    have hfr := treeFrom_any htW HOK.out (by rw [HENT.out]; show 1 ≤ 1000000; omega) ByteArray.empty
    have hpz : posE [(k, listV n)] ByteArray.empty = 0 := by
      have h1 := rangeE_open (es := [(k, listV n)]) (List.pairwise_singleton _ _) ByteArray.empty ByteArray.empty
      rw [rangeE_all] at h1
      have h2 := congrArg List.length h1
      simp at h2
      omega
    rw [treeV, HP.out, HENT.out, hpz] at hfr
    have HFR := Lib.hid (show Calls Try.prog 59 #[.agg #[.pointer p], .string ByteArray.empty] W (AtIPost (some (k, listV n)) W) from hfr)
    have hbt := hst.blk (HBT2.out.ext HX3.out) (by omega)
    have ct : W.cell? ⟨w1.heap.size, 0, none⟩ = some (.pointer p) := hbt.cell 0
    have lt := hbt.lt
    have HBTW := Lib.hid hbt
    have HBSW := Lib.hid hbs
    have HTW := Lib.hid htW
    have HSTW := Lib.hid hst
    have HDK := Lib.hid hDk
    have HDD := Lib.hid hD
    have hszW := hst.size
    clear hS hbs hst hDk hD hxl htW hfr hpz hbt
    gi_wp2_with fail
    refine ⟨trivial, ?_⟩
    refine (callsIn_wide.2 HFR.out).mono ?_
    rintro e w5 hp5
    obtain ⟨b, o, c, so, rfl, hx5, hbF, hc1, hc2, hcell⟩ := at_own hp5
    have hs5 := hx5.size
    have hbs5 := HBSW.out.ext hx5
    have hbn5 := (HSTW.out.blk HN3.out (by omega)).ext hx5
    have HX5 := Lib.hid hx5
    have HBS5 := Lib.hid hbs5
    have HBN5 := Lib.hid hbn5
    have c0 : w5.cell? ⟨w1.heap.size + 1, 0, none⟩ = some (.int .i64 1) := hbs5.cell 0
    have c1 : w5.cell? ⟨w.heap.size, 0, none⟩ = some (.int .i64 n) := hbn5.cell 0
    have hfe := hx5.free b (o + 2) hbF.1
    have l0 := hbs5.lt
    have l1 := hbn5.lt
    have lb : b < w5.heap.size := hbF.2
    have hlow := hbF.1
    have hnb : ¬ w5.heap.size = b := by omega
    have hbt5 := HBTW.out.ext hx5
    have c2 : w5.cell? ⟨w1.heap.size, 0, none⟩ = some (.pointer p) := hbt5.cell 0
    have l2 := hbt5.lt
    have hnT : ¬ b = w1.heap.size := by omega
    have hnT' : ¬ w1.heap.size = b := by omega
    have hnS : ¬ b = w1.heap.size + 1 := by omega
    have hnN : ¬ b = w.heap.size := by omega
    have hcc : (1 : Nat) ≤ c := hc1
    clear hx5 hp5 hbs5 hbn5 hbF ct hbt5
    have hres5 := (HSTW.out.blk (HR2.out.ext HX3.out) (by omega)).ext HX5.out
    have HRES5 := Lib.hid hres5
    clear hres5
    gi_wp2_with fail
    generalize hW6 : World.alloc (World.setCell w5 _ _) _ = W6
    have hx56 : Ext W W6 := by rw [← hW6]; exact (HX5.out.setCell (p := ⟨b, o + 2, none⟩) hlow _).alloc _ _
    have hs6 : w5.heap.size < W6.heap.size := by rw [← hW6]; simp
    have htW6 := HTW.out.ext hx56
    have hat := treeAtI_any htW6 HOK.out (by rw [HENT.out]; show 1 ≤ 1000000; omega) (i := 0) (by decide) (by decide)
    rw [treeV, HP.out, HENT.out] at hat
    have HAT := Lib.hid (show Calls Try.prog 61 #[.agg #[.pointer p], .int .i64 0] W6 (AtIPost (some (k, listV n)) W6) from hat)
    have HX6 := Lib.hid hx56
    clear hW6 hx56 htW6 hat c0 c1 c2 hfe hcell l0 l1 l2 lb hlow hnb hnT hnT' hnS hnN hc1 hc2 hcc
    refine ⟨trivial, ?_⟩
    refine (callsIn_wide.2 HAT.out).mono ?_
    rintro e w7 hp7
    obtain ⟨b2, o2, d2, so2, rfl, hx7, hbF, hc1, hc2, hcell⟩ := at_own hp7
    have HX7 := Lib.hid (HX6.out.trans hx7)
    have HCELL := Lib.hid hcell
    have HB2 := Lib.hid hbF
    have hs7 := hx7.size
    have hcc : (1 : Nat) ≤ d2 := hc1
    clear hp7 hx7 hbF hcell hc1
    gi_wp2_with fail
    generalize hW8 : World.alloc w7 _ = W8
    have hx8 : Ext w7 W8 := by rw [← hW8]; exact (Ext.refl w7).alloc _ _
    have hby : Blk W8 w7.heap.size 56 #[.string k, .int .i64 5, .bool false, .int .i64 0, .string ByteArray.empty, .slice (some ⟨b2, o2, none⟩) 1 d2, .slice so2.a 0 so2.c] := by rw [← hW8]; exact Blk.new w7 _ _
    have hc8 : W8.cell? ⟨b2, o2 + 2, none⟩ = some (.int .i64 n) := (hx8.cell HB2.out.2).trans HCELL.out
    have hx58 : Ext W W8 := HX7.out.trans hx8
    have hn8 := (HSTW.out.blk HN3.out (by omega)).ext hx58
    have hr8 := (HSTW.out.blk (HR2.out.ext HX3.out) (by omega)).ext hx58
    have hs8 := hx8.size
    have hb2l := HB2.out.2
    have hb2h := HB2.out.1
    have n8 : W8.cell? ⟨w.heap.size, 0, none⟩ = some (.int .i64 n) := hn8.cell 0
    have y5 : W8.cell? ⟨w7.heap.size, 5, none⟩ = some (.slice (some ⟨b2, o2, none⟩) 1 d2) := hby.cell 5
    have l8 := hn8.lt
    have l8' := hby.lt
    have HSS := Lib.hid (show ∀ W', BX (w.heap.size + 1) W8 W' → W'.cell? ⟨w7.heap.size, 5, none⟩ = some (.slice (some ⟨b2, o2, none⟩) 1 d2) ∧ W'.cell? ⟨b2, o2 + 2, none⟩ = some (.int .i64 n) ∧ W'.cell? ⟨w.heap.size, 0, none⟩ = some (.int .i64 n) from
      fun W' hb => ⟨(hb.cell l8' (by omega)).trans y5, (hb.cell (by omega) (by omega)).trans hc8, (hb.cell l8 (by omega)).trans n8⟩)
    have HR8 := Lib.hid hr8
    have HX58 := Lib.hid hx58
    have hdk := (HX58.out.heap (Array.getElem?_eq_some_iff.1 HDK.out).1).trans HDK.out
    have HDK8 := Lib.hid hdk
    clear hW8 hx8 hby hc8 hx58 hn8 hr8 n8 y5 hdk
    refine wpIn_onlyN (wpIn_wide.2 ?_)
    refine wp_region_held_drew (S := (fun w' => BX (w.heap.size + 1) W8 w')) (by kernel_rfl) ((BX.of_below ((Ext.refl W8).drew).below)) (fun hHeld => ?_)
    refine held_on (i := 0) (d := (some 71)) (v := ?_) rfl rfl (by kernel_rfl) (by kernel_rfl) (by kernel_rfl) (fun _ _ _ h => h) (by rfl) hHeld ?_ ?_
    rotate_left
    focus (intro w hSw; have hSc := HSS.out w hSw; clear hSw; go_simp; first | done | with_reducible rfl)
    try simp only [Act.put, List.setIfInBounds_toArray, List.set_cons_zero, List.set_cons_succ]
    refine held_on (i := 1) (d := (some 72)) (v := ?_) rfl rfl (by kernel_rfl) (by kernel_rfl) (by kernel_rfl) (fun _ _ _ h => h) (by rfl) hHeld ?_ ?_
    rotate_left
    focus (intro w hSw; have hSc := HSS.out w hSw; clear hSw; go_simp; first | done | with_reducible rfl)
    try simp only [Act.put, List.setIfInBounds_toArray, List.set_cons_zero, List.set_cons_succ]
    refine held_on (i := 2) (d := (some 73)) (v := ?_) rfl rfl (by kernel_rfl) (by kernel_rfl) (by kernel_rfl) (fun _ _ _ h => h) (by rfl) hHeld ?_ ?_
    rotate_left
    focus (intro w hSw; have hSc := HSS.out w hSw; clear hSw; go_simp; first | done | with_reducible rfl)
    try simp only [Act.put, List.setIfInBounds_toArray, List.set_cons_zero, List.set_cons_succ]
    refine held_on (i := 3) (d := (some 74)) (v := ?_) rfl rfl (by kernel_rfl) (by kernel_rfl) (by kernel_rfl) (fun _ _ _ h => h) (by rfl) hHeld ?_ ?_
    rotate_left
    focus (intro w hSw; have hSc := HSS.out w hSw; clear hSw; go_simp; first | done | with_reducible rfl)
    try simp only [Act.put, List.setIfInBounds_toArray, List.set_cons_zero, List.set_cons_succ]
    refine held_on (i := 4) (d := (some 75)) (v := ?_) rfl rfl (by kernel_rfl) (by kernel_rfl) (by kernel_rfl) (fun _ _ _ h => h) (by rfl) hHeld ?_ ?_
    rotate_left
    focus (intro w hSw; have hSc := HSS.out w hSw; clear hSw; go_simp; first | done | with_reducible rfl)
    try simp only [Act.put, List.setIfInBounds_toArray, List.set_cons_zero, List.set_cons_succ]
    refine held_on (i := 5) (d := (some 76)) (v := ?_) rfl rfl (by kernel_rfl) (by kernel_rfl) (by kernel_rfl) (fun _ _ _ h => h) (by rfl) hHeld ?_ ?_
    rotate_left
    focus (intro w hSw; have hSc := HSS.out w hSw; clear hSw; go_simp; first | done | with_reducible rfl)
    try simp only [Act.put, List.setIfInBounds_toArray, List.set_cons_zero, List.set_cons_succ]
    refine held_on (i := 6) (d := (some 77)) (v := ?_) rfl rfl (by kernel_rfl) (by kernel_rfl) (by kernel_rfl) (fun _ _ _ h => h) (by rfl) hHeld ?_ ?_
    rotate_left
    focus (intro w hSw; have hSc := HSS.out w hSw; clear hSw; go_simp; first | done | with_reducible rfl)
    try simp only [Act.put, List.setIfInBounds_toArray, List.set_cons_zero, List.set_cons_succ]
    refine held_on (i := 7) (d := (some 78)) (v := ?_) rfl rfl (by kernel_rfl) (by kernel_rfl) (by kernel_rfl) (fun _ _ _ h => h) (by rfl) hHeld ?_ ?_
    rotate_left
    focus (intro w hSw; have hSc := HSS.out w hSw; clear hSw; go_simp; first | done | with_reducible rfl)
    try simp only [Act.put, List.setIfInBounds_toArray, List.set_cons_zero, List.set_cons_succ]
    refine held_on (i := 8) (d := (some 79)) (v := ?_) rfl rfl (by kernel_rfl) (by kernel_rfl) (by kernel_rfl) (fun _ _ _ h => h) (by rfl) hHeld ?_ ?_
    rotate_left
    focus (intro w hSw; have hSc := HSS.out w hSw; clear hSw; go_simp; first | done | with_reducible rfl)
    try simp only [Act.put, List.setIfInBounds_toArray, List.set_cons_zero, List.set_cons_succ]
    refine held_on (i := 9) (d := (some 80)) (v := ?_) rfl rfl (by kernel_rfl) (by kernel_rfl) (by kernel_rfl) (fun _ _ _ h => h) (by rfl) hHeld ?_ ?_
    rotate_left
    focus (intro w hSw; have hSc := HSS.out w hSw; clear hSw; go_simp; first | done | with_reducible rfl)
    try simp only [Act.put, List.setIfInBounds_toArray, List.set_cons_zero, List.set_cons_succ]
    refine held_on (i := 10) (d := (some 81)) (v := ?_) rfl rfl (by kernel_rfl) (by kernel_rfl) (by kernel_rfl) (fun _ _ _ h => h) (by rfl) hHeld ?_ ?_
    rotate_left
    focus (intro w hSw; have hSc := HSS.out w hSw; clear hSw; go_simp; first | done | with_reducible rfl)
    try simp only [Act.put, List.setIfInBounds_toArray, List.set_cons_zero, List.set_cons_succ]
    refine held_on (i := 11) (d := (some 82)) (v := ?_) rfl rfl (by kernel_rfl) (by kernel_rfl) (by kernel_rfl) (fun _ _ _ h => h) (by rfl) hHeld ?_ ?_
    rotate_left
    focus (intro w hSw; have hSc := HSS.out w hSw; clear hSw; go_simp; first | done | with_reducible rfl)
    try simp only [Act.put, List.setIfInBounds_toArray, List.set_cons_zero, List.set_cons_succ]
    refine held_on (i := 12) (d := (some 83)) (v := ?_) rfl rfl (by kernel_rfl) (by kernel_rfl) (by kernel_rfl) (fun _ _ _ h => h) (by rfl) hHeld ?_ ?_
    rotate_left
    focus (intro w hSw; have hSc := HSS.out w hSw; clear hSw; go_simp; first | done | with_reducible rfl)
    try simp only [Act.put, List.setIfInBounds_toArray, List.set_cons_zero, List.set_cons_succ]
    refine held_on (i := 13) (d := (some 84)) (v := ?_) rfl rfl (by kernel_rfl) (by kernel_rfl) (by kernel_rfl) (fun _ _ _ h => h) (by rfl) hHeld ?_ ?_
    rotate_left
    focus (intro w hSw; have hSc := HSS.out w hSw; clear hSw; go_simp; first | done | with_reducible rfl)
    try simp only [Act.put, List.setIfInBounds_toArray, List.set_cons_zero, List.set_cons_succ]
    refine held_on (i := 14) (d := (some 85)) (v := ?_) rfl rfl (by kernel_rfl) (by kernel_rfl) (by kernel_rfl) (fun _ _ _ h => h) (by rfl) hHeld ?_ ?_
    rotate_left
    focus (intro w hSw; have hSc := HSS.out w hSw; clear hSw; go_simp; first | done | with_reducible rfl)
    try simp only [Act.put, List.setIfInBounds_toArray, List.set_cons_zero, List.set_cons_succ]
    refine held_on (i := 15) (d := (some 86)) (v := ?_) rfl rfl (by kernel_rfl) (by kernel_rfl) (by kernel_rfl) (fun _ _ _ h => h) (by rfl) hHeld ?_ ?_
    rotate_left
    focus (intro w hSw; have hSc := HSS.out w hSw; clear hSw; go_simp; first | done | with_reducible rfl)
    try simp only [Act.put, List.setIfInBounds_toArray, List.set_cons_zero, List.set_cons_succ]
    refine held_call (i := 16) (by kernel_rfl) rfl (by rfl) (fun K hK => ?_)
    go_simp
    (refine (known08 _).mono ?_; rintro e wd ⟨rfl, hbd⟩; have HB9 := Lib.hid (hHeld.below hbd); have hr9 := Bw.blk (HR8.out.ext ((Ext.refl W8).drew)) hbd; have cr9 : wd.cell? ⟨w.heap.size + 1, 0, none⟩ = some (.bool false) := hr9.cell 0; have fr9 := hr9.frozen 0; have lr9 := hr9.lt)
    refine hK.out _ _ (HB9.out) (fun hHeld => ?_)
    clear hK K
    try simp only [Act.put, List.setIfInBounds_toArray, List.set_cons_zero, List.set_cons_succ]
    refine held_on (i := 17) (d := (some 88)) (v := ?_) rfl rfl (by kernel_rfl) (by kernel_rfl) (by kernel_rfl) (fun _ _ _ h => h) (by rfl) hHeld ?_ ?_
    rotate_left
    focus (intro w hSw; have hSc := HSS.out w hSw; clear hSw; go_simp; first | done | with_reducible rfl)
    try simp only [Act.put, List.setIfInBounds_toArray, List.set_cons_zero, List.set_cons_succ]
    refine held_call (i := 18) (by kernel_rfl) rfl (by rfl) (fun K hK => ?_)
    go_simp
    skip
    refine hK.out _ _ (hHeld.set _) (fun hHeld => ?_)
    clear hK K
    try simp only [Act.put, List.setIfInBounds_toArray, List.set_cons_zero, List.set_cons_succ]
    refine wpAnyH_done (by kernel_rfl) ?_ _
    refine onlyN_mk ?_
    have hset := HB9.out.set (o := 0) (.bool true)
    have hbr : Blk (wd.setCell ⟨w.heap.size + 1, 0, none⟩ (.bool true)) (w.heap.size + 1) 4 #[.bool true] := hr9.set_ 0 _
    have hDD := HDD.out
    have hd := (hset.block D (Array.getElem?_eq_some_iff.1 HDK8.out).1 (by omega)).trans HDK8.out
    have HD := Lib.hid hd
    have HSET := Lib.hid hset
    have HBR := Lib.hid hbr
    clear hHeld hd hset hbr hr9 cr9 fr9 lr9 hDD hbd
    generalize wd.setCell ⟨w.heap.size + 1, 0, none⟩ (.bool true) = we at *
    gi_wp2_with fail
    have hk' : St (fun b => b = D) we (we.putObj D (.deferred none)) := St.put HD.out rfl rfl
    have hDD := HDD.out
    have qr : (we.putObj D (.deferred none)).cell? ⟨w.heap.size + 1, 0, none⟩ = some (.bool true) := (hk'.blk HBR.out (by omega)).cell 0
    refine ⟨by simp, .inl ⟨_, _, rfl, run_takeDeferred HD.out, ?_⟩⟩
    refine ⟨.bool true, ?_, rfl, ?_⟩
    · simp [results, Try.f16, go_sem, qr]
    · have k0 := HX0.out.size
      have k1 := HX1.out.size
      have k2 := HX2.out.size
      have k3 := HX3.out.size
      have k4 := HX58.out.size
      have k5 := HSET.out.size
      have h1 : Below w.heap.size w w3 := ((HX0.out.trans HX1.out).trans (HX2.out.trans HX3.out)).below
      have h2 : Below w.heap.size w3 W := ⟨HSTW.out.os, HSTW.out.tape, HSTW.out.output, HSTW.out.size, fun b hb => HSTW.out.block b (by omega) (by omega)⟩
      have h3 : Below w.heap.size W W8 := HX58.out.below.mono (by omega)
      have h4 : Below w.heap.size W8 we := ⟨HSET.out.os, HSET.out.tape, HSET.out.output, HSET.out.size, fun b hb => HSET.out.block b (by omega) (by omega)⟩
      exact (((h1.trans h2).trans h3).trans h4).trans ⟨hk'.os, hk'.tape, hk'.output, hk'.size, fun b hb => hk'.block b (by omega) (by omega)⟩
theorem scanown_w (k : ByteArray) (n : Int) (w : World) (hk : k.size ≤ maxLen) (wn : (Lit.int .i64 n).wf = true) : Calls Try.prog 16 #[.string k, .int .i64 n] w fun e w' => e = .returned (.bool true) ∧ Below w.heap.size w w' := scanown_any k n hk wn w
end Go.Proofs.Ytpapoalgocmlaaa
