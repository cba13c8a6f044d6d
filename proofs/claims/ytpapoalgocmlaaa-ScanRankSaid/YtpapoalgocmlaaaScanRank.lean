/- ScanRank: how many keys are below any text, and which entries stand on both its sides. -/
import Derived.Test.YtpapoalgocmlaaaLaw8B
namespace Go.Proofs.Ytpapoalgocmlaaa
open Go.RowKit
set_option linter.unusedVariables false
set_option linter.unusedSimpArgs false

set_option maxRecDepth 100000 in
theorem scanrank_not {w : World} {s : Sl} {n : Nat} (k : ByteArray) (h : 400 < n) : Calls Try.prog 14 #[.slice s.a n s.c, .string k] w fun e w' => e = .returned (.bool true) ∧ Below w.heap.size w w' := by
  have hm := made_not (w := w) (s := s) h
  have HM := Lib.hid hm
  clear hm
  go_enter Try.func14, Try.ntmps14
  go_wp2_with fail
  refine HM.out.mono ?_
  rintro e w1 ⟨rfl, hx1⟩
  have hx2 := hx1.alloc #[.pointer none] 30
  have HX2 := Lib.hid hx2
  clear hx1 hx2
  go_wp2_with fail
  refine (known08 _).mono ?_
  rintro e w2 ⟨rfl, hb2⟩
  have HB2 := Lib.hid hb2
  clear hb2
  go_wp2_with fail
  go_ret
  exact ⟨rfl, HX2.out.below.trans (HB2.out.mono HX2.out.size)⟩
/-- What the law holds where its last regions begin: the tree, the row, the three entries told. -/
structure RankS (W : World) (es : List Ent) (T : RT) (s : Sl) (ms : List LE) (p : Option Addr) (Bt : Nat) : Prop where
  made : Made W es T s ms
  box : Blk W Bt 30 #[.pointer p]
  root : rootV T = .pointer p
theorem RankS.ext {W W' : World} {es : List Ent} {T : RT} {s : Sl} {ms : List LE} {p : Option Addr} {Bt : Nat} (h : RankS W es T s ms p Bt) (k : Ext W W') : RankS W' es T s ms p Bt := ⟨h.made.ext k, h.box.ext k, h.root⟩
theorem ent_at {w : World} {es : List Ent} {T : RT} {s : Sl} {ms : List LE} (h : Made w es T s ms) {n : Nat} (hn : n < es.length) : ∃ x, ms[n]? = some x ∧ es[n]? = some x.ent := by
  have hl := h.len
  obtain ⟨x, hx⟩ : ∃ x, ms[n]? = some x := ⟨_, List.getElem?_eq_getElem (by omega)⟩
  exact ⟨x, hx, by rw [← h.ms_, List.getElem?_map, hx]; rfl⟩
set_option maxRecDepth 100000 in
set_option maxHeartbeats 8000000 in
theorem scanrank_tt {w : World} {s : Sl} {xs : List LE} (k : ByteArray) (h : ES w (Lt w.heap.size) s xs) (hl : xs.length ≤ 400) {es : List Ent} (hes : putAll [] (xs.map LE.ent) = es) {n : Nat} (hn : posE es k = n) (hA : n < es.length) (hB : 0 < n) : Calls Try.prog 14 #[.slice s.a xs.length s.c, .string k] w fun e w' => e = .returned (.bool true) ∧ Below w.heap.size w w' := by
  have hm := made_any h hl
  unfold MadePost at hm
  rw [hes] at hm
  have HM := Lib.hid hm
  have HNN := Lib.hid hn
  have HAA := Lib.hid hA
  have HBB := Lib.hid hB
  clear hm h hl hes hn hA hB
  go_enter Try.func14, Try.ntmps14
  go_wp2_with fail
  refine HM.out.mono ?_
  rintro e w1 ⟨T, sm, ms, rfl, hmade, hx1⟩
  obtain ⟨p, hp⟩ := rootV_ptr T
  dsimp only [treeV]
  rw [hp]
  have hb2 := Blk.new w1 30 #[.pointer p]
  have hx2 : Ext w1 (w1.alloc (.cells #[.pointer p] 30)) := (Ext.refl w1).alloc _ _
  have hL : RankS (w1.alloc (.cells #[.pointer p] 30)) es T sm ms p w1.heap.size := ⟨hmade.ext hx2, hb2, hp⟩
  have hA := HAA.out
  have hB := HBB.out
  have hns : n ≤ es.length := by rw [← HNN.out]; exact posE_le _ _
  have hfew := hmade.few
  have HLEN := Lib.hid hmade.len
  have hms : ms.length ≤ 400 := by have := HLEN.out; omega
  have hnm : n < ms.length := by have := HLEN.out; omega
  obtain ⟨x, hxj, hxe⟩ := ent_at hmade hA
  have HXJ := Lib.hid hxj
  have HXE := Lib.hid hxe
  clear hxj hxe
  obtain ⟨j, hj⟩ : ∃ j, n = j + 1 := ⟨n - 1, by omega⟩
  obtain ⟨y, hyj, hye⟩ := ent_at hmade (n := j) (by omega)
  have HYJ := Lib.hid hyj
  have HYE := Lib.hid hye
  clear hyj hye
  have hr8 := rank8_any (hmade.ext hx2).list (by omega) k
  rw [hmade.ms_, posE_not hmade.sorted, HNN.out] at hr8
  have HR8 := Lib.hid hr8
  have hfr := fun W (hW : RankS W es T sm ms p w1.heap.size) => treeFrom_any hW.made.at_ hW.made.ok (by rw [hW.made.ents]; omega) k
  have hbf := fun W (hW : RankS W es T sm ms p w1.heap.size) => treeBefore_any hW.made.at_ hW.made.ok (by rw [hW.made.ents]; omega) k
  have hat := fun W (hW : RankS W es T sm ms p w1.heap.size) => treeAtI_any (i := (n : Int)) hW.made.at_ hW.made.ok (by rw [hW.made.ents]; omega) (by omega) (by omega)
  have hrk := fun W (hW : RankS W es T sm ms p w1.heap.size) => treeRank_any hW.made.at_ hW.made.ok (by rw [hW.made.ents]; omega) k
  rw [treeV, hp, hmade.ents, HNN.out] at hfr hbf hrk
  rw [treeV, hp, hmade.ents] at hat
  rw [show es[n]? = some x.ent from HXE.out] at hfr
  rw [show getI es (n : Int) = some x.ent from by unfold getI; rw [if_neg (by omega), Int.toNat_natCast]; exact HXE.out] at hat
  rw [show getI es ((n : Int) - 1) = some y.ent from by unfold getI; rw [if_neg (by omega), show ((n : Int) - 1).toNat = j from by omega]; exact HYE.out] at hbf
  have HFR := Lib.hid hfr
  have HBF := Lib.hid hbf
  have HAT := Lib.hid hat
  have HRK := Lib.hid hrk
  have HX2 := Lib.hid (hx1.trans hx2)
  have HL := Lib.hid hL
  have c2 : (w1.alloc (.cells #[.pointer p] 30)).cell? ⟨w1.heap.size, 0, none⟩ = some (.pointer p) := hb2.cell 0
  have l2 := hb2.lt
  have ga : decide ((n : Int) < (ms.length : Int)) = true := decide_eq_true (by omega)
  have ga' : (n : Int) < (ms.length : Int) := by omega
  have gb : decide ((0 : Int) < (n : Int)) = true := decide_eq_true (by omega)
  have gb' : (0 : Int) < (n : Int) := by omega
  have gb2 : 0 < n := by omega
  clear HM hmade hx1 hb2 hx2 hL hp hr8 hfr hbf hat hrk hA hB
  have HJ := Lib.hid hj
  clear hj
  go_wp2_with fail
  generalize w1.alloc (.cells #[.pointer p] 30) = W0 at *
  generalize w1.heap.size = Bt at *
  refine HR8.out.mono ?_
  rintro e w3 ⟨rfl, hx3⟩
  have HL3 := Lib.hid (HL.out.ext hx3)
  have HX3 := Lib.hid (HX2.out.trans hx3)
  have c3 : w3.cell? ⟨Bt, 0, none⟩ = some (.pointer p) := HL3.out.box.cell 0
  have l3 := HL3.out.box.lt
  clear hx3 c2 l2
  go_wp2_with fail
  refine (HFR.out w3 HL3.out).mono ?_
  rintro e w4 ⟨slx, sox, rfl, hx4, hrvx⟩
  have HL4 := Lib.hid (HL3.out.ext hx4)
  have HX4 := Lib.hid hx4
  have HRX := Lib.hid hrvx
  have c4 : w4.cell? ⟨Bt, 0, none⟩ = some (.pointer p) := HL4.out.box.cell 0
  have l4 := HL4.out.box.lt
  clear hx4 hrvx c3 l3
  go_upto_region 6 with (fail)
  generalize hW5 : World.alloc w4 _ = W5
  have HX5 := Lib.hid (show Ext w4 W5 by rw [← hW5]; exact (Ext.refl w4).alloc _ _)
  have HBX := Lib.hid (show Blk W5 w4.heap.size 56 #[.string x.k, .int .i64 x.v.kind, .bool x.v.b, .int .i64 x.v.i, .string x.v.t, .slice slx.a x.v.l.length slx.c, .slice sox.a x.v.ok.length sox.c] by rw [← hW5]; exact Blk.new w4 _ _)
  have HL5 := Lib.hid (HL4.out.ext HX5.out)
  have c5 : W5.cell? ⟨Bt, 0, none⟩ = some (.pointer p) := HL5.out.box.cell 0
  have l5 := HL5.out.box.lt
  clear hW5 c4 l4
  go_wp2_with fail
  refine (HBF.out W5 HL5.out).mono ?_
  rintro e w6 ⟨sly, soy, rfl, hx6, hrvy⟩
  have HL6 := Lib.hid (HL5.out.ext hx6)
  have HX6 := Lib.hid hx6
  have HRY := Lib.hid hrvy
  have c6 : w6.cell? ⟨Bt, 0, none⟩ = some (.pointer p) := HL6.out.box.cell 0
  have l6 := HL6.out.box.lt
  clear hx6 hrvy c5 l5
  go_upto_region 7 with (fail)
  generalize hW7 : World.alloc w6 _ = W7
  have HX7 := Lib.hid (show Ext w6 W7 by rw [← hW7]; exact (Ext.refl w6).alloc _ _)
  have HBY := Lib.hid (show Blk W7 w6.heap.size 56 #[.string y.k, .int .i64 y.v.kind, .bool y.v.b, .int .i64 y.v.i, .string y.v.t, .slice sly.a y.v.l.length sly.c, .slice soy.a y.v.ok.length soy.c] by rw [← hW7]; exact Blk.new w6 _ _)
  have HL7 := Lib.hid (HL6.out.ext HX7.out)
  have c7 : W7.cell? ⟨Bt, 0, none⟩ = some (.pointer p) := HL7.out.box.cell 0
  have l7 := HL7.out.box.lt
  clear hW7 c6 l6
  go_wp2_with fail
  refine (HAT.out W7 HL7.out).mono ?_
  rintro e w8 ⟨slz, soz, rfl, hx8, hrvz⟩
  have HL8 := Lib.hid (HL7.out.ext hx8)
  have HX8 := Lib.hid hx8
  have HRZ := Lib.hid hrvz
  clear hx8 hrvz c7 l7
  go_upto_region 8 with (fail)
  generalize hW9 : World.alloc w8 _ = W9
  have HX9 := Lib.hid (show Ext w8 W9 by rw [← hW9]; exact (Ext.refl w8).alloc _ _)
  have HBZ := Lib.hid (show Blk W9 w8.heap.size 56 #[.string x.k, .int .i64 x.v.kind, .bool x.v.b, .int .i64 x.v.i, .string x.v.t, .slice slz.a x.v.l.length slz.c, .slice soz.a x.v.ok.length soz.c] by rw [← hW9]; exact Blk.new w8 _ _)
  have HL9 := Lib.hid (HL8.out.ext HX9.out)
  have c9 : W9.cell? ⟨Bt, 0, none⟩ = some (.pointer p) := HL9.out.box.cell 0
  have l9 := HL9.out.box.lt
  clear hW9
  go_wp2_with fail
  refine (HRK.out W9 HL9.out).mono ?_
  rintro e wa ⟨rfl, hxa⟩
  have HLA := Lib.hid (HL9.out.ext hxa)
  have HBXA := Lib.hid (((((HBX.out.ext HX6.out).ext HX7.out).ext HX8.out).ext HX9.out).ext hxa)
  have HBYA := Lib.hid (((HBY.out.ext HX8.out).ext HX9.out).ext hxa)
  have HBZA := Lib.hid (HBZ.out.ext hxa)
  have HXW := Lib.hid ((((((((HX3.out.trans HX4.out).trans HX5.out).trans HX6.out).trans HX7.out).trans HX8.out).trans HX9.out)).trans hxa)
  have hw1 : IntKind.i64.wrap ((n : Int) + 1) = (n : Int) + 1 := by rw [IntKind.wrap_i64]; omega
  have hw2 : IntKind.i64.wrap ((n : Int) - 1) = (n : Int) - 1 := by rw [IntKind.wrap_i64]; omega
  have HRXA := Lib.hid (show RV wa (Lt wa.heap.size) x.v slx sox from (HRX.out.agree (((((HX5.out.trans HX6.out).trans HX7.out).trans HX8.out).trans HX9.out).trans hxa |>.agree fun b hb => hb.2)).mono fun b hb => Nat.lt_of_lt_of_le hb.2 (((((HX5.out.trans HX6.out).trans HX7.out).trans HX8.out).trans HX9.out).trans hxa).size)
  have HRZA := Lib.hid (show RV wa (Lt wa.heap.size) x.v slz soz from (HRZ.out.agree ((HX9.out.trans hxa).agree fun b hb => hb.2)).mono fun b hb => Nat.lt_of_lt_of_le hb.2 (HX9.out.trans hxa).size)
  have HRYA := Lib.hid (show RV wa (Lt wa.heap.size) y.v sly soy from (HRY.out.agree ((((HX7.out.trans HX8.out).trans HX9.out).trans hxa).agree fun b hb => hb.2)).mono fun b hb => Nat.lt_of_lt_of_le hb.2 (((HX7.out.trans HX8.out).trans HX9.out).trans hxa).size)
  clear hxa c9 l9 HBX HBY HBZ HRX HRY HRZ
  obtain ⟨b, o, ha, hbl, hlc, hcm, -, -, -, hks⟩ := HLA.out.made.list.at HXJ.out
  have hksy : y.k.size ≤ maxLen := (HLA.out.made.list.vals y (List.mem_of_getElem? HYJ.out)).2
  obtain ⟨sa, sc⟩ := sm
  dsimp only at ha hlc hcm
  subst ha
  have HSS := Lib.hid (show ∀ W, Below wa.heap.size wa W → W.cell? ⟨w4.heap.size, 0, none⟩ = some (.string x.k) ∧ W.cell? ⟨w4.heap.size, 1, none⟩ = some (.int .i64 x.v.kind) ∧ W.cell? ⟨w4.heap.size, 2, none⟩ = some (.bool x.v.b) ∧ W.cell? ⟨w4.heap.size, 3, none⟩ = some (.int .i64 x.v.i) ∧ W.cell? ⟨w4.heap.size, 4, none⟩ = some (.string x.v.t) ∧ W.cell? ⟨w4.heap.size, 5, none⟩ = some (.slice slx.a x.v.l.length slx.c) ∧ W.cell? ⟨w4.heap.size, 6, none⟩ = some (.slice sox.a x.v.ok.length sox.c) ∧ W.cell? ⟨w8.heap.size, 0, none⟩ = some (.string x.k) ∧ W.cell? ⟨w8.heap.size, 1, none⟩ = some (.int .i64 x.v.kind) ∧ W.cell? ⟨w8.heap.size, 2, none⟩ = some (.bool x.v.b) ∧ W.cell? ⟨w8.heap.size, 3, none⟩ = some (.int .i64 x.v.i) ∧ W.cell? ⟨w8.heap.size, 4, none⟩ = some (.string x.v.t) ∧ W.cell? ⟨w8.heap.size, 5, none⟩ = some (.slice slz.a x.v.l.length slz.c) ∧ W.cell? ⟨w8.heap.size, 6, none⟩ = some (.slice soz.a x.v.ok.length soz.c) ∧ W.cell? ⟨w6.heap.size, 0, none⟩ = some (.string y.k) ∧ W.cell? ⟨w6.heap.size, 1, none⟩ = some (.int .i64 y.v.kind) ∧ W.cell? ⟨w6.heap.size, 2, none⟩ = some (.bool y.v.b) ∧ W.cell? ⟨w6.heap.size, 3, none⟩ = some (.int .i64 y.v.i) ∧ W.cell? ⟨w6.heap.size, 4, none⟩ = some (.string y.v.t) ∧ W.cell? ⟨w6.heap.size, 5, none⟩ = some (.slice sly.a y.v.l.length sly.c) ∧ W.cell? ⟨w6.heap.size, 6, none⟩ = some (.slice soy.a y.v.ok.length soy.c) from fun W hW => ⟨(Bw.blk HBXA.out hW).cell 0, (Bw.blk HBXA.out hW).cell 1, (Bw.blk HBXA.out hW).cell 2, (Bw.blk HBXA.out hW).cell 3, (Bw.blk HBXA.out hW).cell 4, (Bw.blk HBXA.out hW).cell 5, (Bw.blk HBXA.out hW).cell 6, (Bw.blk HBZA.out hW).cell 0, (Bw.blk HBZA.out hW).cell 1, (Bw.blk HBZA.out hW).cell 2, (Bw.blk HBZA.out hW).cell 3, (Bw.blk HBZA.out hW).cell 4, (Bw.blk HBZA.out hW).cell 5, (Bw.blk HBZA.out hW).cell 6, (Bw.blk HBYA.out hW).cell 0, (Bw.blk HBYA.out hW).cell 1, (Bw.blk HBYA.out hW).cell 2, (Bw.blk HBYA.out hW).cell 3, (Bw.blk HBYA.out hW).cell 4, (Bw.blk HBYA.out hW).cell 5, (Bw.blk HBYA.out hW).cell 6⟩)
  have hsc1 : (n : Int) + 1 ≤ (sc : Int) := by omega
  have hsc0 : (0 : Int) ≤ (n : Int) + 1 := by omega
  have htn : ((n : Int) + 1).toNat = n + 1 := by omega
  have hnsc : ¬ sc = n := by omega
  have hn11 : n + 1 - n = 1 := by omega
  have HSX := Lib.hid (fun (W : World) (hW : Below wa.heap.size wa W) => same_part HLA.out.made.list HXJ.out HRXA.out hks (Agree.of_below hW (F := Lt wa.heap.size) fun _ h => h) hW.size)
  have HSZ := Lib.hid (fun (W : World) (hW : Below wa.heap.size wa W) => same_part HLA.out.made.list HXJ.out HRZA.out hks (Agree.of_below hW (F := Lt wa.heap.size) fun _ h => h) hW.size)
  have hlo0 : (0 : Int) ≤ (n : Int) - 1 := by omega
  have hhi1 : (n : Int) ≤ (sc : Int) := by have := HLEN.out; omega
  have hhi0 : (0 : Int) ≤ (n : Int) := by omega
  have htj : ((n : Int) - 1).toNat = j := by have := HJ.out; omega
  have hjn : j ≤ n := by have := HJ.out; omega
  have hjl : (n : Int) - 1 ≤ (n : Int) := by omega
  have hscn : n ≤ sc := by have := HLEN.out; omega
  have h1n : (1 : Int) ≤ (n : Int) := by omega
  have hjsc : ¬ sc = j := by have := HJ.out; have := HLEN.out; omega
  have hnj1 : n - j = 1 := by have := HJ.out; omega
  have HSY := Lib.hid (fun (W : World) (hW : Below wa.heap.size wa W) => same_part HLA.out.made.list HYJ.out HRYA.out hksy (Agree.of_below hW (F := Lt wa.heap.size) fun _ h => h) hW.size)
  go_wp2_with fail
  refine wp_region_held_drew (S := (fun w' => Below wa.heap.size wa w')) (by kernel_rfl) ((((Ext.refl wa).drew).below)) (fun hHeld => ?_)
  refine held_on (i := 0) (d := (some 69)) (v := ?_) rfl rfl (by kernel_rfl) (by kernel_rfl) (by kernel_rfl) (fun _ _ _ h => h) (by rfl) hHeld ?_ ?_
  rotate_left
  focus (intro w hSw; have hSc := HSS.out w hSw; clear hSw; go_simp; first | done | with_reducible rfl)
  try simp only [Act.put, List.setIfInBounds_toArray, List.set_cons_zero, List.set_cons_succ]
  refine held_on (i := 1) (d := (some 70)) (v := ?_) rfl rfl (by kernel_rfl) (by kernel_rfl) (by kernel_rfl) (fun _ _ _ h => h) (by rfl) hHeld ?_ ?_
  rotate_left
  focus (intro w hSw; have hSc := HSS.out w hSw; clear hSw; go_simp; first | done | with_reducible rfl)
  try simp only [Act.put, List.setIfInBounds_toArray, List.set_cons_zero, List.set_cons_succ]
  refine held_on (i := 2) (d := (some 71)) (v := ?_) rfl rfl (by kernel_rfl) (by kernel_rfl) (by kernel_rfl) (fun _ _ _ h => h) (by rfl) hHeld ?_ ?_
  rotate_left
  focus (intro w hSw; have hSc := HSS.out w hSw; clear hSw; go_simp; first | done | with_reducible rfl)
  try simp only [Act.put, List.setIfInBounds_toArray, List.set_cons_zero, List.set_cons_succ]
  refine held_on (i := 4) (d := (some 73)) (v := ?_) rfl rfl (by kernel_rfl) (by kernel_rfl) (by kernel_rfl) (fun _ _ _ h => h) (by rfl) hHeld ?_ ?_
  rotate_left
  focus (intro w hSw; have hSc := HSS.out w hSw; clear hSw; go_simp; first | done | with_reducible rfl)
  try simp only [Act.put, List.setIfInBounds_toArray, List.set_cons_zero, List.set_cons_succ]
  refine held_on (i := 5) (d := (some 74)) (v := ?_) rfl rfl (by kernel_rfl) (by kernel_rfl) (by kernel_rfl) (fun _ _ _ h => h) (by rfl) hHeld ?_ ?_
  rotate_left
  focus (intro w hSw; have hSc := HSS.out w hSw; clear hSw; go_simp; first | done | with_reducible rfl)
  try simp only [Act.put, List.setIfInBounds_toArray, List.set_cons_zero, List.set_cons_succ]
  refine held_on (i := 6) (d := (some 75)) (v := ?_) rfl rfl (by kernel_rfl) (by kernel_rfl) (by kernel_rfl) (fun _ _ _ h => h) (by rfl) hHeld ?_ ?_
  rotate_left
  focus (intro w hSw; have hSc := HSS.out w hSw; clear hSw; go_simp; first | done | with_reducible rfl)
  try simp only [Act.put, List.setIfInBounds_toArray, List.set_cons_zero, List.set_cons_succ]
  refine held_on (i := 7) (d := (some 76)) (v := ?_) rfl rfl (by kernel_rfl) (by kernel_rfl) (by kernel_rfl) (fun _ _ _ h => h) (by rfl) hHeld ?_ ?_
  rotate_left
  focus (intro w hSw; have hSc := HSS.out w hSw; clear hSw; go_simp; first | done | with_reducible rfl)
  try simp only [Act.put, List.setIfInBounds_toArray, List.set_cons_zero, List.set_cons_succ]
  refine held_on (i := 8) (d := (some 77)) (v := ?_) rfl rfl (by kernel_rfl) (by kernel_rfl) (by kernel_rfl) (fun _ _ _ h => h) (by rfl) hHeld ?_ ?_
  rotate_left
  focus (intro w hSw; have hSc := HSS.out w hSw; clear hSw; go_simp; first | done | with_reducible rfl)
  try simp only [Act.put, List.setIfInBounds_toArray, List.set_cons_zero, List.set_cons_succ]
  refine held_call (i := 3) (by kernel_rfl) rfl (by rfl) (fun K hK => ?_)
  go_simp
  skip
  refine hK.out _ _ (hHeld.alloc (Nat.le_refl _) _) (fun hHeld => ?_)
  clear hK K
  try simp only [Act.put, List.setIfInBounds_toArray, List.set_cons_zero, List.set_cons_succ]
  refine held_call (i := 9) (by kernel_rfl) rfl (by rfl) (fun K hK => ?_)
  go_simp
  (refine (HSX.out _ (((Ext.refl wa).drew).below)).mono ?_; rintro e wb ⟨rfl, hxb⟩)
  refine hK.out _ _ ((((Ext.refl wa).drew).trans hxb).below) (fun hHeld => ?_)
  clear hK K
  try simp only [Act.put, List.setIfInBounds_toArray, List.set_cons_zero, List.set_cons_succ]
  refine held_on (i := 10) (d := (some 79)) (v := ?_) rfl rfl (by kernel_rfl) (by kernel_rfl) (by kernel_rfl) (fun _ _ _ h => h) (by rfl) hHeld ?_ ?_
  rotate_left
  focus (intro w hSw; have hSc := HSS.out w hSw; clear hSw; go_simp; first | done | with_reducible rfl)
  try simp only [Act.put, List.setIfInBounds_toArray, List.set_cons_zero, List.set_cons_succ]
  refine held_on (i := 11) (d := (some 80)) (v := ?_) rfl rfl (by kernel_rfl) (by kernel_rfl) (by kernel_rfl) (fun _ _ _ h => h) (by rfl) hHeld ?_ ?_
  rotate_left
  focus (intro w hSw; have hSc := HSS.out w hSw; clear hSw; go_simp; first | done | with_reducible rfl)
  try simp only [Act.put, List.setIfInBounds_toArray, List.set_cons_zero, List.set_cons_succ]
  refine held_on (i := 12) (d := (some 81)) (v := ?_) rfl rfl (by kernel_rfl) (by kernel_rfl) (by kernel_rfl) (fun _ _ _ h => h) (by rfl) hHeld ?_ ?_
  rotate_left
  focus (intro w hSw; have hSc := HSS.out w hSw; clear hSw; go_simp; first | done | with_reducible rfl)
  try simp only [Act.put, List.setIfInBounds_toArray, List.set_cons_zero, List.set_cons_succ]
  refine held_on (i := 14) (d := (some 83)) (v := ?_) rfl rfl (by kernel_rfl) (by kernel_rfl) (by kernel_rfl) (fun _ _ _ h => h) (by rfl) hHeld ?_ ?_
  rotate_left
  focus (intro w hSw; have hSc := HSS.out w hSw; clear hSw; go_simp; first | done | with_reducible rfl)
  try simp only [Act.put, List.setIfInBounds_toArray, List.set_cons_zero, List.set_cons_succ]
  refine held_on (i := 15) (d := (some 84)) (v := ?_) rfl rfl (by kernel_rfl) (by kernel_rfl) (by kernel_rfl) (fun _ _ _ h => h) (by rfl) hHeld ?_ ?_
  rotate_left
  focus (intro w hSw; have hSc := HSS.out w hSw; clear hSw; go_simp; first | done | with_reducible rfl)
  try simp only [Act.put, List.setIfInBounds_toArray, List.set_cons_zero, List.set_cons_succ]
  refine held_on (i := 16) (d := (some 85)) (v := ?_) rfl rfl (by kernel_rfl) (by kernel_rfl) (by kernel_rfl) (fun _ _ _ h => h) (by rfl) hHeld ?_ ?_
  rotate_left
  focus (intro w hSw; have hSc := HSS.out w hSw; clear hSw; go_simp; first | done | with_reducible rfl)
  try simp only [Act.put, List.setIfInBounds_toArray, List.set_cons_zero, List.set_cons_succ]
  refine held_on (i := 17) (d := (some 86)) (v := ?_) rfl rfl (by kernel_rfl) (by kernel_rfl) (by kernel_rfl) (fun _ _ _ h => h) (by rfl) hHeld ?_ ?_
  rotate_left
  focus (intro w hSw; have hSc := HSS.out w hSw; clear hSw; go_simp; first | done | with_reducible rfl)
  try simp only [Act.put, List.setIfInBounds_toArray, List.set_cons_zero, List.set_cons_succ]
  refine held_on (i := 18) (d := (some 87)) (v := ?_) rfl rfl (by kernel_rfl) (by kernel_rfl) (by kernel_rfl) (fun _ _ _ h => h) (by rfl) hHeld ?_ ?_
  rotate_left
  focus (intro w hSw; have hSc := HSS.out w hSw; clear hSw; go_simp; first | done | with_reducible rfl)
  try simp only [Act.put, List.setIfInBounds_toArray, List.set_cons_zero, List.set_cons_succ]
  have hh13 := hHeld
  refine held_call (i := 13) (by kernel_rfl) rfl (by rfl) (fun K hK => ?_)
  go_simp
  skip
  refine hK.out _ _ (hHeld.alloc hHeld.size _) (fun hHeld => ?_)
  clear hK K
  try simp only [Act.put, List.setIfInBounds_toArray, List.set_cons_zero, List.set_cons_succ]
  refine held_call (i := 19) (by kernel_rfl) rfl (by rfl) (fun K hK => ?_)
  go_simp
  (refine (HSZ.out _ hh13).mono ?_; rintro e wc ⟨rfl, hxc⟩)
  refine hK.out _ _ (Bw.ext hh13 hxc) (fun hHeld => ?_)
  clear hK K
  try simp only [Act.put, List.setIfInBounds_toArray, List.set_cons_zero, List.set_cons_succ]
  refine held_on (i := 20) (d := (some 89)) (v := ?_) rfl rfl (by kernel_rfl) (by kernel_rfl) (by kernel_rfl) (fun _ _ _ h => h) (by rfl) hHeld ?_ ?_
  rotate_left
  focus (intro w hSw; have hSc := HSS.out w hSw; clear hSw; go_simp; first | done | with_reducible rfl)
  try simp only [Act.put, List.setIfInBounds_toArray, List.set_cons_zero, List.set_cons_succ]
  refine held_on (i := 21) (d := (some 90)) (v := ?_) rfl rfl (by kernel_rfl) (by kernel_rfl) (by kernel_rfl) (fun _ _ _ h => h) (by rfl) hHeld ?_ ?_
  rotate_left
  focus (intro w hSw; have hSc := HSS.out w hSw; clear hSw; go_simp; first | done | with_reducible rfl)
  try simp only [Act.put, List.setIfInBounds_toArray, List.set_cons_zero, List.set_cons_succ]
  refine held_on (i := 22) (d := (some 91)) (v := ?_) rfl rfl (by kernel_rfl) (by kernel_rfl) (by kernel_rfl) (fun _ _ _ h => h) (by rfl) hHeld ?_ ?_
  rotate_left
  focus (intro w hSw; have hSc := HSS.out w hSw; clear hSw; go_simp; first | done | with_reducible rfl)
  try simp only [Act.put, List.setIfInBounds_toArray, List.set_cons_zero, List.set_cons_succ]
  refine wpAnyH_done (by kernel_rfl) ?_ _
  have hh10 := hHeld
  clear hHeld
  go_wp2_with fail
  refine wp_region_held_drew (S := (fun w' => Below wa.heap.size wa w')) (by kernel_rfl) ((hh10.drew)) (fun hHeld => ?_)
  refine held_on (i := 0) (d := (some 92)) (v := ?_) rfl rfl (by kernel_rfl) (by kernel_rfl) (by kernel_rfl) (fun _ _ _ h => h) (by rfl) hHeld ?_ ?_
  rotate_left
  focus (intro w hSw; have hSc := HSS.out w hSw; clear hSw; go_simp; first | done | with_reducible rfl)
  try simp only [Act.put, List.setIfInBounds_toArray, List.set_cons_zero, List.set_cons_succ]
  refine held_on (i := 1) (d := (some 93)) (v := ?_) rfl rfl (by kernel_rfl) (by kernel_rfl) (by kernel_rfl) (fun _ _ _ h => h) (by rfl) hHeld ?_ ?_
  rotate_left
  focus (intro w hSw; have hSc := HSS.out w hSw; clear hSw; go_simp; first | done | with_reducible rfl)
  try simp only [Act.put, List.setIfInBounds_toArray, List.set_cons_zero, List.set_cons_succ]
  refine held_on (i := 2) (d := (some 94)) (v := ?_) rfl rfl (by kernel_rfl) (by kernel_rfl) (by kernel_rfl) (fun _ _ _ h => h) (by rfl) hHeld ?_ ?_
  rotate_left
  focus (intro w hSw; have hSc := HSS.out w hSw; clear hSw; go_simp; first | done | with_reducible rfl)
  try simp only [Act.put, List.setIfInBounds_toArray, List.set_cons_zero, List.set_cons_succ]
  refine held_on (i := 3) (d := (some 95)) (v := ?_) rfl rfl (by kernel_rfl) (by kernel_rfl) (by kernel_rfl) (fun _ _ _ h => h) (by rfl) hHeld ?_ ?_
  rotate_left
  focus (intro w hSw; have hSc := HSS.out w hSw; clear hSw; go_simp; first | done | with_reducible rfl)
  try simp only [Act.put, List.setIfInBounds_toArray, List.set_cons_zero, List.set_cons_succ]
  refine held_on (i := 5) (d := (some 97)) (v := ?_) rfl rfl (by kernel_rfl) (by kernel_rfl) (by kernel_rfl) (fun _ _ _ h => h) (by rfl) hHeld ?_ ?_
  rotate_left
  focus (intro w hSw; have hSc := HSS.out w hSw; clear hSw; go_simp; first | done | with_reducible rfl)
  try simp only [Act.put, List.setIfInBounds_toArray, List.set_cons_zero, List.set_cons_succ]
  refine held_on (i := 6) (d := (some 98)) (v := ?_) rfl rfl (by kernel_rfl) (by kernel_rfl) (by kernel_rfl) (fun _ _ _ h => h) (by rfl) hHeld ?_ ?_
  rotate_left
  focus (intro w hSw; have hSc := HSS.out w hSw; clear hSw; go_simp; first | done | with_reducible rfl)
  try simp only [Act.put, List.setIfInBounds_toArray, List.set_cons_zero, List.set_cons_succ]
  refine held_on (i := 7) (d := (some 99)) (v := ?_) rfl rfl (by kernel_rfl) (by kernel_rfl) (by kernel_rfl) (fun _ _ _ h => h) (by rfl) hHeld ?_ ?_
  rotate_left
  focus (intro w hSw; have hSc := HSS.out w hSw; clear hSw; go_simp; first | done | with_reducible rfl)
  try simp only [Act.put, List.setIfInBounds_toArray, List.set_cons_zero, List.set_cons_succ]
  refine held_on (i := 8) (d := (some 100)) (v := ?_) rfl rfl (by kernel_rfl) (by kernel_rfl) (by kernel_rfl) (fun _ _ _ h => h) (by rfl) hHeld ?_ ?_
  rotate_left
  focus (intro w hSw; have hSc := HSS.out w hSw; clear hSw; go_simp; first | done | with_reducible rfl)
  try simp only [Act.put, List.setIfInBounds_toArray, List.set_cons_zero, List.set_cons_succ]
  refine held_on (i := 9) (d := (some 101)) (v := ?_) rfl rfl (by kernel_rfl) (by kernel_rfl) (by kernel_rfl) (fun _ _ _ h => h) (by rfl) hHeld ?_ ?_
  rotate_left
  focus (intro w hSw; have hSc := HSS.out w hSw; clear hSw; go_simp; first | done | with_reducible rfl)
  try simp only [Act.put, List.setIfInBounds_toArray, List.set_cons_zero, List.set_cons_succ]
  have hh4 := hHeld
  refine held_call (i := 4) (by kernel_rfl) rfl (by rfl) (fun K hK => ?_)
  go_simp
  skip
  refine hK.out _ _ (hHeld.alloc hHeld.size _) (fun hHeld => ?_)
  clear hK K
  try simp only [Act.put, List.setIfInBounds_toArray, List.set_cons_zero, List.set_cons_succ]
  refine held_call (i := 10) (by kernel_rfl) rfl (by rfl) (fun K hK => ?_)
  go_simp
  (refine (HSY.out _ hh4).mono ?_; rintro e wd ⟨rfl, hxd⟩)
  refine hK.out _ _ (Bw.ext hh4 hxd) (fun hHeld => ?_)
  clear hK K
  try simp only [Act.put, List.setIfInBounds_toArray, List.set_cons_zero, List.set_cons_succ]
  refine held_on (i := 11) (d := (some 103)) (v := ?_) rfl rfl (by kernel_rfl) (by kernel_rfl) (by kernel_rfl) (fun _ _ _ h => h) (by rfl) hHeld ?_ ?_
  rotate_left
  focus (intro w hSw; have hSc := HSS.out w hSw; clear hSw; go_simp; first | done | with_reducible rfl)
  try simp only [Act.put, List.setIfInBounds_toArray, List.set_cons_zero, List.set_cons_succ]
  refine held_on (i := 12) (d := (some 104)) (v := ?_) rfl rfl (by kernel_rfl) (by kernel_rfl) (by kernel_rfl) (fun _ _ _ h => h) (by rfl) hHeld ?_ ?_
  rotate_left
  focus (intro w hSw; have hSc := HSS.out w hSw; clear hSw; go_simp; first | done | with_reducible rfl)
  try simp only [Act.put, List.setIfInBounds_toArray, List.set_cons_zero, List.set_cons_succ]
  refine held_call (i := 13) (by kernel_rfl) rfl (by rfl) (fun K hK => ?_)
  go_simp
  (refine (known08 _).mono ?_; rintro e we ⟨rfl, hbe⟩)
  refine hK.out _ _ (Bw.trans hHeld hbe) (fun hHeld => ?_)
  clear hK K
  try simp only [Act.put, List.setIfInBounds_toArray, List.set_cons_zero, List.set_cons_succ]
  refine held_on (i := 14) (d := (some 106)) (v := ?_) rfl rfl (by kernel_rfl) (by kernel_rfl) (by kernel_rfl) (fun _ _ _ h => h) (by rfl) hHeld ?_ ?_
  rotate_left
  focus (intro w hSw; have hSc := HSS.out w hSw; clear hSw; go_simp; first | done | with_reducible rfl)
  try simp only [Act.put, List.setIfInBounds_toArray, List.set_cons_zero, List.set_cons_succ]
  refine held_on (i := 15) (d := (some 4)) (v := ?_) rfl rfl (by kernel_rfl) (by kernel_rfl) (by kernel_rfl) (fun _ _ _ h => h) (by rfl) hHeld ?_ ?_
  rotate_left
  focus (intro w hSw; have hSc := HSS.out w hSw; clear hSw; go_simp; first | done | with_reducible rfl)
  try simp only [Act.put, List.setIfInBounds_toArray, List.set_cons_zero, List.set_cons_succ]
  refine wpAnyH_done (by kernel_rfl) ?_ _
  have HBE := Lib.hid (HXW.out.below.trans (hHeld.mono HXW.out.size))
  clear hHeld
  go_wp2_with fail
  go_ret
  exact ⟨rfl, HBE.out⟩
set_option maxRecDepth 100000 in
set_option maxHeartbeats 8000000 in
theorem scanrank_tf {w : World} {s : Sl} {xs : List LE} (k : ByteArray) (h : ES w (Lt w.heap.size) s xs) (hl : xs.length ≤ 400) {es : List Ent} (hes : putAll [] (xs.map LE.ent) = es) {n : Nat} (hn : posE es k = n) (hA : n < es.length) (hB : n = 0) : Calls Try.prog 14 #[.slice s.a xs.length s.c, .string k] w fun e w' => e = .returned (.bool true) ∧ Below w.heap.size w w' := by
  have hm := made_any h hl
  unfold MadePost at hm
  rw [hes] at hm
  have HM := Lib.hid hm
  have HNN := Lib.hid hn
  have HAA := Lib.hid hA
  have HBB := Lib.hid hB
  clear hm h hl hes hn hA hB
  go_enter Try.func14, Try.ntmps14
  go_wp2_with fail
  refine HM.out.mono ?_
  rintro e w1 ⟨T, sm, ms, rfl, hmade, hx1⟩
  obtain ⟨p, hp⟩ := rootV_ptr T
  dsimp only [treeV]
  rw [hp]
  have hb2 := Blk.new w1 30 #[.pointer p]
  have hx2 : Ext w1 (w1.alloc (.cells #[.pointer p] 30)) := (Ext.refl w1).alloc _ _
  have hL : RankS (w1.alloc (.cells #[.pointer p] 30)) es T sm ms p w1.heap.size := ⟨hmade.ext hx2, hb2, hp⟩
  have hA := HAA.out
  have hB := HBB.out
  have hns : n ≤ es.length := by rw [← HNN.out]; exact posE_le _ _
  have hfew := hmade.few
  have HLEN := Lib.hid hmade.len
  have hms : ms.length ≤ 400 := by have := HLEN.out; omega
  have hnm : n < ms.length := by have := HLEN.out; omega
  obtain ⟨x, hxj, hxe⟩ := ent_at hmade hA
  have HXJ := Lib.hid hxj
  have HXE := Lib.hid hxe
  clear hxj hxe
  have hr8 := rank8_any (hmade.ext hx2).list (by omega) k
  rw [hmade.ms_, posE_not hmade.sorted, HNN.out] at hr8
  have HR8 := Lib.hid hr8
  have hfr := fun W (hW : RankS W es T sm ms p w1.heap.size) => treeFrom_any hW.made.at_ hW.made.ok (by rw [hW.made.ents]; omega) k
  have hbf := fun W (hW : RankS W es T sm ms p w1.heap.size) => treeBefore_any hW.made.at_ hW.made.ok (by rw [hW.made.ents]; omega) k
  have hat := fun W (hW : RankS W es T sm ms p w1.heap.size) => treeAtI_any (i := (n : Int)) hW.made.at_ hW.made.ok (by rw [hW.made.ents]; omega) (by omega) (by omega)
  have hrk := fun W (hW : RankS W es T sm ms p w1.heap.size) => treeRank_any hW.made.at_ hW.made.ok (by rw [hW.made.ents]; omega) k
  rw [treeV, hp, hmade.ents, HNN.out] at hfr hbf hrk
  rw [treeV, hp, hmade.ents] at hat
  rw [show es[n]? = some x.ent from HXE.out] at hfr
  rw [show getI es (n : Int) = some x.ent from by unfold getI; rw [if_neg (by omega), Int.toNat_natCast]; exact HXE.out] at hat
  rw [show getI es ((n : Int) - 1) = none from by unfold getI; rw [if_pos (by omega)]] at hbf
  have HFR := Lib.hid hfr
  have HBF := Lib.hid hbf
  have HAT := Lib.hid hat
  have HRK := Lib.hid hrk
  have HX2 := Lib.hid (hx1.trans hx2)
  have HL := Lib.hid hL
  have c2 : (w1.alloc (.cells #[.pointer p] 30)).cell? ⟨w1.heap.size, 0, none⟩ = some (.pointer p) := hb2.cell 0
  have l2 := hb2.lt
  have ga : decide ((n : Int) < (ms.length : Int)) = true := decide_eq_true (by omega)
  have ga' : (n : Int) < (ms.length : Int) := by omega
  have gb : decide ((0 : Int) < (n : Int)) = false := decide_eq_false (by omega)
  have gb' : ¬ (0 : Int) < (n : Int) := by omega
  have gb2 : ¬ 0 < n := by omega
  clear HM hmade hx1 hb2 hx2 hL hp hr8 hfr hbf hat hrk hA hB
  go_wp2_with fail
  generalize w1.alloc (.cells #[.pointer p] 30) = W0 at *
  generalize w1.heap.size = Bt at *
  refine HR8.out.mono ?_
  rintro e w3 ⟨rfl, hx3⟩
  have HL3 := Lib.hid (HL.out.ext hx3)
  have HX3 := Lib.hid (HX2.out.trans hx3)
  have c3 : w3.cell? ⟨Bt, 0, none⟩ = some (.pointer p) := HL3.out.box.cell 0
  have l3 := HL3.out.box.lt
  clear hx3 c2 l2
  go_wp2_with fail
  refine (HFR.out w3 HL3.out).mono ?_
  rintro e w4 ⟨slx, sox, rfl, hx4, hrvx⟩
  have HL4 := Lib.hid (HL3.out.ext hx4)
  have HX4 := Lib.hid hx4
  have HRX := Lib.hid hrvx
  have c4 : w4.cell? ⟨Bt, 0, none⟩ = some (.pointer p) := HL4.out.box.cell 0
  have l4 := HL4.out.box.lt
  clear hx4 hrvx c3 l3
  go_upto_region 6 with (fail)
  generalize hW5 : World.alloc w4 _ = W5
  have HX5 := Lib.hid (show Ext w4 W5 by rw [← hW5]; exact (Ext.refl w4).alloc _ _)
  have HBX := Lib.hid (show Blk W5 w4.heap.size 56 #[.string x.k, .int .i64 x.v.kind, .bool x.v.b, .int .i64 x.v.i, .string x.v.t, .slice slx.a x.v.l.length slx.c, .slice sox.a x.v.ok.length sox.c] by rw [← hW5]; exact Blk.new w4 _ _)
  have HL5 := Lib.hid (HL4.out.ext HX5.out)
  have c5 : W5.cell? ⟨Bt, 0, none⟩ = some (.pointer p) := HL5.out.box.cell 0
  have l5 := HL5.out.box.lt
  clear hW5 c4 l4
  go_wp2_with fail
  refine (HBF.out W5 HL5.out).mono ?_
  rintro e w6 ⟨sly, soy, rfl, hx6, hrvy⟩
  have HL6 := Lib.hid (HL5.out.ext hx6)
  have HX6 := Lib.hid hx6
  have HRY := Lib.hid hrvy
  have c6 : w6.cell? ⟨Bt, 0, none⟩ = some (.pointer p) := HL6.out.box.cell 0
  have l6 := HL6.out.box.lt
  clear hx6 hrvy c5 l5
  go_upto_region 7 with (fail)
  generalize hW7 : World.alloc w6 _ = W7
  have HX7 := Lib.hid (show Ext w6 W7 by rw [← hW7]; exact (Ext.refl w6).alloc _ _)
  have HBY := Lib.hid (show Blk W7 w6.heap.size 56 #[.string noE.1, .int .i64 noE.2.kind, .bool noE.2.b, .int .i64 noE.2.i, .string noE.2.t, .slice sly.a noE.2.l.length sly.c, .slice soy.a noE.2.ok.length soy.c] by rw [← hW7]; exact Blk.new w6 _ _)
  have HL7 := Lib.hid (HL6.out.ext HX7.out)
  have c7 : W7.cell? ⟨Bt, 0, none⟩ = some (.pointer p) := HL7.out.box.cell 0
  have l7 := HL7.out.box.lt
  clear hW7 c6 l6
  go_wp2_with fail
  refine (HAT.out W7 HL7.out).mono ?_
  rintro e w8 ⟨slz, soz, rfl, hx8, hrvz⟩
  have HL8 := Lib.hid (HL7.out.ext hx8)
  have HX8 := Lib.hid hx8
  have HRZ := Lib.hid hrvz
  clear hx8 hrvz c7 l7
  go_upto_region 8 with (fail)
  generalize hW9 : World.alloc w8 _ = W9
  have HX9 := Lib.hid (show Ext w8 W9 by rw [← hW9]; exact (Ext.refl w8).alloc _ _)
  have HBZ := Lib.hid (show Blk W9 w8.heap.size 56 #[.string x.k, .int .i64 x.v.kind, .bool x.v.b, .int .i64 x.v.i, .string x.v.t, .slice slz.a x.v.l.length slz.c, .slice soz.a x.v.ok.length soz.c] by rw [← hW9]; exact Blk.new w8 _ _)
  have HL9 := Lib.hid (HL8.out.ext HX9.out)
  have c9 : W9.cell? ⟨Bt, 0, none⟩ = some (.pointer p) := HL9.out.box.cell 0
  have l9 := HL9.out.box.lt
  clear hW9
  go_wp2_with fail
  refine (HRK.out W9 HL9.out).mono ?_
  rintro e wa ⟨rfl, hxa⟩
  have HLA := Lib.hid (HL9.out.ext hxa)
  have HBXA := Lib.hid (((((HBX.out.ext HX6.out).ext HX7.out).ext HX8.out).ext HX9.out).ext hxa)
  have HBYA := Lib.hid (((HBY.out.ext HX8.out).ext HX9.out).ext hxa)
  have HBZA := Lib.hid (HBZ.out.ext hxa)
  have HXW := Lib.hid ((((((((HX3.out.trans HX4.out).trans HX5.out).trans HX6.out).trans HX7.out).trans HX8.out).trans HX9.out)).trans hxa)
  have hw1 : IntKind.i64.wrap ((n : Int) + 1) = (n : Int) + 1 := by rw [IntKind.wrap_i64]; omega
  have hw2 : IntKind.i64.wrap ((n : Int) - 1) = (n : Int) - 1 := by rw [IntKind.wrap_i64]; omega
  have HRXA := Lib.hid (show RV wa (Lt wa.heap.size) x.v slx sox from (HRX.out.agree (((((HX5.out.trans HX6.out).trans HX7.out).trans HX8.out).trans HX9.out).trans hxa |>.agree fun b hb => hb.2)).mono fun b hb => Nat.lt_of_lt_of_le hb.2 (((((HX5.out.trans HX6.out).trans HX7.out).trans HX8.out).trans HX9.out).trans hxa).size)
  have HRZA := Lib.hid (show RV wa (Lt wa.heap.size) x.v slz soz from (HRZ.out.agree ((HX9.out.trans hxa).agree fun b hb => hb.2)).mono fun b hb => Nat.lt_of_lt_of_le hb.2 (HX9.out.trans hxa).size)
  clear hxa c9 l9 HBX HBY HBZ HRX HRY HRZ
  obtain ⟨b, o, ha, hbl, hlc, hcm, -, -, -, hks⟩ := HLA.out.made.list.at HXJ.out
  obtain ⟨sa, sc⟩ := sm
  dsimp only at ha hlc hcm
  subst ha
  have HSS := Lib.hid (show ∀ W, Below wa.heap.size wa W → W.cell? ⟨w4.heap.size, 0, none⟩ = some (.string x.k) ∧ W.cell? ⟨w4.heap.size, 1, none⟩ = some (.int .i64 x.v.kind) ∧ W.cell? ⟨w4.heap.size, 2, none⟩ = some (.bool x.v.b) ∧ W.cell? ⟨w4.heap.size, 3, none⟩ = some (.int .i64 x.v.i) ∧ W.cell? ⟨w4.heap.size, 4, none⟩ = some (.string x.v.t) ∧ W.cell? ⟨w4.heap.size, 5, none⟩ = some (.slice slx.a x.v.l.length slx.c) ∧ W.cell? ⟨w4.heap.size, 6, none⟩ = some (.slice sox.a x.v.ok.length sox.c) ∧ W.cell? ⟨w8.heap.size, 0, none⟩ = some (.string x.k) ∧ W.cell? ⟨w8.heap.size, 1, none⟩ = some (.int .i64 x.v.kind) ∧ W.cell? ⟨w8.heap.size, 2, none⟩ = some (.bool x.v.b) ∧ W.cell? ⟨w8.heap.size, 3, none⟩ = some (.int .i64 x.v.i) ∧ W.cell? ⟨w8.heap.size, 4, none⟩ = some (.string x.v.t) ∧ W.cell? ⟨w8.heap.size, 5, none⟩ = some (.slice slz.a x.v.l.length slz.c) ∧ W.cell? ⟨w8.heap.size, 6, none⟩ = some (.slice soz.a x.v.ok.length soz.c) from fun W hW => ⟨(Bw.blk HBXA.out hW).cell 0, (Bw.blk HBXA.out hW).cell 1, (Bw.blk HBXA.out hW).cell 2, (Bw.blk HBXA.out hW).cell 3, (Bw.blk HBXA.out hW).cell 4, (Bw.blk HBXA.out hW).cell 5, (Bw.blk HBXA.out hW).cell 6, (Bw.blk HBZA.out hW).cell 0, (Bw.blk HBZA.out hW).cell 1, (Bw.blk HBZA.out hW).cell 2, (Bw.blk HBZA.out hW).cell 3, (Bw.blk HBZA.out hW).cell 4, (Bw.blk HBZA.out hW).cell 5, (Bw.blk HBZA.out hW).cell 6⟩)
  have hsc1 : (n : Int) + 1 ≤ (sc : Int) := by omega
  have hsc0 : (0 : Int) ≤ (n : Int) + 1 := by omega
  have htn : ((n : Int) + 1).toNat = n + 1 := by omega
  have hnsc : ¬ sc = n := by omega
  have hn11 : n + 1 - n = 1 := by omega
  have HSX := Lib.hid (fun (W : World) (hW : Below wa.heap.size wa W) => same_part HLA.out.made.list HXJ.out HRXA.out hks (Agree.of_below hW (F := Lt wa.heap.size) fun _ h => h) hW.size)
  have HSZ := Lib.hid (fun (W : World) (hW : Below wa.heap.size wa W) => same_part HLA.out.made.list HXJ.out HRZA.out hks (Agree.of_below hW (F := Lt wa.heap.size) fun _ h => h) hW.size)
  go_wp2_with fail
  refine wp_region_held_drew (S := (fun w' => Below wa.heap.size wa w')) (by kernel_rfl) ((((Ext.refl wa).drew).below)) (fun hHeld => ?_)
  refine held_on (i := 0) (d := (some 69)) (v := ?_) rfl rfl (by kernel_rfl) (by kernel_rfl) (by kernel_rfl) (fun _ _ _ h => h) (by rfl) hHeld ?_ ?_
  rotate_left
  focus (intro w hSw; have hSc := HSS.out w hSw; clear hSw; go_simp; first | done | with_reducible rfl)
  try simp only [Act.put, List.setIfInBounds_toArray, List.set_cons_zero, List.set_cons_succ]
  refine held_on (i := 1) (d := (some 70)) (v := ?_) rfl rfl (by kernel_rfl) (by kernel_rfl) (by kernel_rfl) (fun _ _ _ h => h) (by rfl) hHeld ?_ ?_
  rotate_left
  focus (intro w hSw; have hSc := HSS.out w hSw; clear hSw; go_simp; first | done | with_reducible rfl)
  try simp only [Act.put, List.setIfInBounds_toArray, List.set_cons_zero, List.set_cons_succ]
  refine held_on (i := 2) (d := (some 71)) (v := ?_) rfl rfl (by kernel_rfl) (by kernel_rfl) (by kernel_rfl) (fun _ _ _ h => h) (by rfl) hHeld ?_ ?_
  rotate_left
  focus (intro w hSw; have hSc := HSS.out w hSw; clear hSw; go_simp; first | done | with_reducible rfl)
  try simp only [Act.put, List.setIfInBounds_toArray, List.set_cons_zero, List.set_cons_succ]
  refine held_on (i := 4) (d := (some 73)) (v := ?_) rfl rfl (by kernel_rfl) (by kernel_rfl) (by kernel_rfl) (fun _ _ _ h => h) (by rfl) hHeld ?_ ?_
  rotate_left
  focus (intro w hSw; have hSc := HSS.out w hSw; clear hSw; go_simp; first | done | with_reducible rfl)
  try simp only [Act.put, List.setIfInBounds_toArray, List.set_cons_zero, List.set_cons_succ]
  refine held_on (i := 5) (d := (some 74)) (v := ?_) rfl rfl (by kernel_rfl) (by kernel_rfl) (by kernel_rfl) (fun _ _ _ h => h) (by rfl) hHeld ?_ ?_
  rotate_left
  focus (intro w hSw; have hSc := HSS.out w hSw; clear hSw; go_simp; first | done | with_reducible rfl)
  try simp only [Act.put, List.setIfInBounds_toArray, List.set_cons_zero, List.set_cons_succ]
  refine held_on (i := 6) (d := (some 75)) (v := ?_) rfl rfl (by kernel_rfl) (by kernel_rfl) (by kernel_rfl) (fun _ _ _ h => h) (by rfl) hHeld ?_ ?_
  rotate_left
  focus (intro w hSw; have hSc := HSS.out w hSw; clear hSw; go_simp; first | done | with_reducible rfl)
  try simp only [Act.put, List.setIfInBounds_toArray, List.set_cons_zero, List.set_cons_succ]
  refine held_on (i := 7) (d := (some 76)) (v := ?_) rfl rfl (by kernel_rfl) (by kernel_rfl) (by kernel_rfl) (fun _ _ _ h => h) (by rfl) hHeld ?_ ?_
  rotate_left
  focus (intro w hSw; have hSc := HSS.out w hSw; clear hSw; go_simp; first | done | with_reducible rfl)
  try simp only [Act.put, List.setIfInBounds_toArray, List.set_cons_zero, List.set_cons_succ]
  refine held_on (i := 8) (d := (some 77)) (v := ?_) rfl rfl (by kernel_rfl) (by kernel_rfl) (by kernel_rfl) (fun _ _ _ h => h) (by rfl) hHeld ?_ ?_
  rotate_left
  focus (intro w hSw; have hSc := HSS.out w hSw; clear hSw; go_simp; first | done | with_reducible rfl)
  try simp only [Act.put, List.setIfInBounds_toArray, List.set_cons_zero, List.set_cons_succ]
  refine held_call (i := 3) (by kernel_rfl) rfl (by rfl) (fun K hK => ?_)
  go_simp
  skip
  refine hK.out _ _ (hHeld.alloc (Nat.le_refl _) _) (fun hHeld => ?_)
  clear hK K
  try simp only [Act.put, List.setIfInBounds_toArray, List.set_cons_zero, List.set_cons_succ]
  refine held_call (i := 9) (by kernel_rfl) rfl (by rfl) (fun K hK => ?_)
  go_simp
  (refine (HSX.out _ (((Ext.refl wa).drew).below)).mono ?_; rintro e wb ⟨rfl, hxb⟩)
  refine hK.out _ _ ((((Ext.refl wa).drew).trans hxb).below) (fun hHeld => ?_)
  clear hK K
  try simp only [Act.put, List.setIfInBounds_toArray, List.set_cons_zero, List.set_cons_succ]
  refine held_on (i := 10) (d := (some 79)) (v := ?_) rfl rfl (by kernel_rfl) (by kernel_rfl) (by kernel_rfl) (fun _ _ _ h => h) (by rfl) hHeld ?_ ?_
  rotate_left
  focus (intro w hSw; have hSc := HSS.out w hSw; clear hSw; go_simp; first | done | with_reducible rfl)
  try simp only [Act.put, List.setIfInBounds_toArray, List.set_cons_zero, List.set_cons_succ]
  refine held_on (i := 11) (d := (some 80)) (v := ?_) rfl rfl (by kernel_rfl) (by kernel_rfl) (by kernel_rfl) (fun _ _ _ h => h) (by rfl) hHeld ?_ ?_
  rotate_left
  focus (intro w hSw; have hSc := HSS.out w hSw; clear hSw; go_simp; first | done | with_reducible rfl)
  try simp only [Act.put, List.setIfInBounds_toArray, List.set_cons_zero, List.set_cons_succ]
  refine held_on (i := 12) (d := (some 81)) (v := ?_) rfl rfl (by kernel_rfl) (by kernel_rfl) (by kernel_rfl) (fun _ _ _ h => h) (by rfl) hHeld ?_ ?_
  rotate_left
  focus (intro w hSw; have hSc := HSS.out w hSw; clear hSw; go_simp; first | done | with_reducible rfl)
  try simp only [Act.put, List.setIfInBounds_toArray, List.set_cons_zero, List.set_cons_succ]
  refine held_on (i := 14) (d := (some 83)) (v := ?_) rfl rfl (by kernel_rfl) (by kernel_rfl) (by kernel_rfl) (fun _ _ _ h => h) (by rfl) hHeld ?_ ?_
  rotate_left
  focus (intro w hSw; have hSc := HSS.out w hSw; clear hSw; go_simp; first | done | with_reducible rfl)
  try simp only [Act.put, List.setIfInBounds_toArray, List.set_cons_zero, List.set_cons_succ]
  refine held_on (i := 15) (d := (some 84)) (v := ?_) rfl rfl (by kernel_rfl) (by kernel_rfl) (by kernel_rfl) (fun _ _ _ h => h) (by rfl) hHeld ?_ ?_
  rotate_left
  focus (intro w hSw; have hSc := HSS.out w hSw; clear hSw; go_simp; first | done | with_reducible rfl)
  try simp only [Act.put, List.setIfInBounds_toArray, List.set_cons_zero, List.set_cons_succ]
  refine held_on (i := 16) (d := (some 85)) (v := ?_) rfl rfl (by kernel_rfl) (by kernel_rfl) (by kernel_rfl) (fun _ _ _ h => h) (by rfl) hHeld ?_ ?_
  rotate_left
  focus (intro w hSw; have hSc := HSS.out w hSw; clear hSw; go_simp; first | done | with_reducible rfl)
  try simp only [Act.put, List.setIfInBounds_toArray, List.set_cons_zero, List.set_cons_succ]
  refine held_on (i := 17) (d := (some 86)) (v := ?_) rfl rfl (by kernel_rfl) (by kernel_rfl) (by kernel_rfl) (fun _ _ _ h => h) (by rfl) hHeld ?_ ?_
  rotate_left
  focus (intro w hSw; have hSc := HSS.out w hSw; clear hSw; go_simp; first | done | with_reducible rfl)
  try simp only [Act.put, List.setIfInBounds_toArray, List.set_cons_zero, List.set_cons_succ]
  refine held_on (i := 18) (d := (some 87)) (v := ?_) rfl rfl (by kernel_rfl) (by kernel_rfl) (by kernel_rfl) (fun _ _ _ h => h) (by rfl) hHeld ?_ ?_
  rotate_left
  focus (intro w hSw; have hSc := HSS.out w hSw; clear hSw; go_simp; first | done | with_reducible rfl)
  try simp only [Act.put, List.setIfInBounds_toArray, List.set_cons_zero, List.set_cons_succ]
  have hh13 := hHeld
  refine held_call (i := 13) (by kernel_rfl) rfl (by rfl) (fun K hK => ?_)
  go_simp
  skip
  refine hK.out _ _ (hHeld.alloc hHeld.size _) (fun hHeld => ?_)
  clear hK K
  try simp only [Act.put, List.setIfInBounds_toArray, List.set_cons_zero, List.set_cons_succ]
  refine held_call (i := 19) (by kernel_rfl) rfl (by rfl) (fun K hK => ?_)
  go_simp
  (refine (HSZ.out _ hh13).mono ?_; rintro e wc ⟨rfl, hxc⟩)
  refine hK.out _ _ (Bw.ext hh13 hxc) (fun hHeld => ?_)
  clear hK K
  try simp only [Act.put, List.setIfInBounds_toArray, List.set_cons_zero, List.set_cons_succ]
  refine held_on (i := 20) (d := (some 89)) (v := ?_) rfl rfl (by kernel_rfl) (by kernel_rfl) (by kernel_rfl) (fun _ _ _ h => h) (by rfl) hHeld ?_ ?_
  rotate_left
  focus (intro w hSw; have hSc := HSS.out w hSw; clear hSw; go_simp; first | done | with_reducible rfl)
  try simp only [Act.put, List.setIfInBounds_toArray, List.set_cons_zero, List.set_cons_succ]
  refine held_on (i := 21) (d := (some 90)) (v := ?_) rfl rfl (by kernel_rfl) (by kernel_rfl) (by kernel_rfl) (fun _ _ _ h => h) (by rfl) hHeld ?_ ?_
  rotate_left
  focus (intro w hSw; have hSc := HSS.out w hSw; clear hSw; go_simp; first | done | with_reducible rfl)
  try simp only [Act.put, List.setIfInBounds_toArray, List.set_cons_zero, List.set_cons_succ]
  refine held_on (i := 22) (d := (some 91)) (v := ?_) rfl rfl (by kernel_rfl) (by kernel_rfl) (by kernel_rfl) (fun _ _ _ h => h) (by rfl) hHeld ?_ ?_
  rotate_left
  focus (intro w hSw; have hSc := HSS.out w hSw; clear hSw; go_simp; first | done | with_reducible rfl)
  try simp only [Act.put, List.setIfInBounds_toArray, List.set_cons_zero, List.set_cons_succ]
  refine wpAnyH_done (by kernel_rfl) ?_ _
  have hh10 := hHeld
  clear hHeld
  go_wp2_with fail
  refine wp_region_held_drew (S := (fun w' => Below wa.heap.size wa w')) (by kernel_rfl) ((hh10.drew)) (fun hHeld => ?_)
  refine held_on (i := 0) (d := (some 92)) (v := ?_) rfl rfl (by kernel_rfl) (by kernel_rfl) (by kernel_rfl) (fun _ _ _ h => h) (by rfl) hHeld ?_ ?_
  rotate_left
  focus (intro w hSw; have hSc := HSS.out w hSw; clear hSw; go_simp; first | done | with_reducible rfl)
  try simp only [Act.put, List.setIfInBounds_toArray, List.set_cons_zero, List.set_cons_succ]
  refine held_on (i := 1) (d := (some 93)) (v := ?_) rfl rfl (by kernel_rfl) (by kernel_rfl) (by kernel_rfl) (fun _ _ _ h => h) (by rfl) hHeld ?_ ?_
  rotate_left
  focus (intro w hSw; have hSc := HSS.out w hSw; clear hSw; go_simp; first | done | with_reducible rfl)
  try simp only [Act.put, List.setIfInBounds_toArray, List.set_cons_zero, List.set_cons_succ]
  refine held_on (i := 2) (d := (some 94)) (v := ?_) rfl rfl (by kernel_rfl) (by kernel_rfl) (by kernel_rfl) (fun _ _ _ h => h) (by rfl) hHeld ?_ ?_
  rotate_left
  focus (intro w hSw; have hSc := HSS.out w hSw; clear hSw; go_simp; first | done | with_reducible rfl)
  try simp only [Act.put, List.setIfInBounds_toArray, List.set_cons_zero, List.set_cons_succ]
  refine held_off (i := 3) (d := (some 95)) rfl rfl (by kernel_rfl) (by kernel_rfl) (by kernel_rfl) (fun _ _ _ h => h) (by rfl) hHeld ?_
  try simp only [Act.put, List.setIfInBounds_toArray, List.set_cons_zero, List.set_cons_succ]
  refine held_off (i := 4) (d := (some 96)) rfl rfl (by kernel_rfl) (by kernel_rfl) (by kernel_rfl) (fun _ _ _ h => h) (by rfl) hHeld ?_
  try simp only [Act.put, List.setIfInBounds_toArray, List.set_cons_zero, List.set_cons_succ]
  refine held_off (i := 5) (d := (some 97)) rfl rfl (by kernel_rfl) (by kernel_rfl) (by kernel_rfl) (fun _ _ _ h => h) (by rfl) hHeld ?_
  try simp only [Act.put, List.setIfInBounds_toArray, List.set_cons_zero, List.set_cons_succ]
  refine held_off (i := 6) (d := (some 98)) rfl rfl (by kernel_rfl) (by kernel_rfl) (by kernel_rfl) (fun _ _ _ h => h) (by rfl) hHeld ?_
  try simp only [Act.put, List.setIfInBounds_toArray, List.set_cons_zero, List.set_cons_succ]
  refine held_off (i := 7) (d := (some 99)) rfl rfl (by kernel_rfl) (by kernel_rfl) (by kernel_rfl) (fun _ _ _ h => h) (by rfl) hHeld ?_
  try simp only [Act.put, List.setIfInBounds_toArray, List.set_cons_zero, List.set_cons_succ]
  refine held_off (i := 8) (d := (some 100)) rfl rfl (by kernel_rfl) (by kernel_rfl) (by kernel_rfl) (fun _ _ _ h => h) (by rfl) hHeld ?_
  try simp only [Act.put, List.setIfInBounds_toArray, List.set_cons_zero, List.set_cons_succ]
  refine held_off (i := 9) (d := (some 101)) rfl rfl (by kernel_rfl) (by kernel_rfl) (by kernel_rfl) (fun _ _ _ h => h) (by rfl) hHeld ?_
  try simp only [Act.put, List.setIfInBounds_toArray, List.set_cons_zero, List.set_cons_succ]
  refine held_off (i := 10) (d := (some 102)) rfl rfl (by kernel_rfl) (by kernel_rfl) (by kernel_rfl) (fun _ _ _ h => h) (by rfl) hHeld ?_
  try simp only [Act.put, List.setIfInBounds_toArray, List.set_cons_zero, List.set_cons_succ]
  refine held_on (i := 11) (d := (some 103)) (v := ?_) rfl rfl (by kernel_rfl) (by kernel_rfl) (by kernel_rfl) (fun _ _ _ h => h) (by rfl) hHeld ?_ ?_
  rotate_left
  focus (intro w hSw; have hSc := HSS.out w hSw; clear hSw; go_simp; first | done | with_reducible rfl)
  try simp only [Act.put, List.setIfInBounds_toArray, List.set_cons_zero, List.set_cons_succ]
  refine held_on (i := 12) (d := (some 104)) (v := ?_) rfl rfl (by kernel_rfl) (by kernel_rfl) (by kernel_rfl) (fun _ _ _ h => h) (by rfl) hHeld ?_ ?_
  rotate_left
  focus (intro w hSw; have hSc := HSS.out w hSw; clear hSw; go_simp; first | done | with_reducible rfl)
  try simp only [Act.put, List.setIfInBounds_toArray, List.set_cons_zero, List.set_cons_succ]
  refine held_call (i := 13) (by kernel_rfl) rfl (by rfl) (fun K hK => ?_)
  go_simp
  (refine (known08 _).mono ?_; rintro e we ⟨rfl, hbe⟩)
  refine hK.out _ _ (Bw.trans hHeld hbe) (fun hHeld => ?_)
  clear hK K
  try simp only [Act.put, List.setIfInBounds_toArray, List.set_cons_zero, List.set_cons_succ]
  refine held_on (i := 14) (d := (some 106)) (v := ?_) rfl rfl (by kernel_rfl) (by kernel_rfl) (by kernel_rfl) (fun _ _ _ h => h) (by rfl) hHeld ?_ ?_
  rotate_left
  focus (intro w hSw; have hSc := HSS.out w hSw; clear hSw; go_simp; first | done | with_reducible rfl)
  try simp only [Act.put, List.setIfInBounds_toArray, List.set_cons_zero, List.set_cons_succ]
  refine held_on (i := 15) (d := (some 4)) (v := ?_) rfl rfl (by kernel_rfl) (by kernel_rfl) (by kernel_rfl) (fun _ _ _ h => h) (by rfl) hHeld ?_ ?_
  rotate_left
  focus (intro w hSw; have hSc := HSS.out w hSw; clear hSw; go_simp; first | done | with_reducible rfl)
  try simp only [Act.put, List.setIfInBounds_toArray, List.set_cons_zero, List.set_cons_succ]
  refine wpAnyH_done (by kernel_rfl) ?_ _
  have HBE := Lib.hid (HXW.out.below.trans (hHeld.mono HXW.out.size))
  clear hHeld
  go_wp2_with fail
  go_ret
  exact ⟨rfl, HBE.out⟩
set_option maxRecDepth 100000 in
set_option maxHeartbeats 8000000 in
theorem scanrank_ft {w : World} {s : Sl} {xs : List LE} (k : ByteArray) (h : ES w (Lt w.heap.size) s xs) (hl : xs.length ≤ 400) {es : List Ent} (hes : putAll [] (xs.map LE.ent) = es) {n : Nat} (hn : posE es k = n) (hA : n = es.length) (hB : 0 < n) : Calls Try.prog 14 #[.slice s.a xs.length s.c, .string k] w fun e w' => e = .returned (.bool true) ∧ Below w.heap.size w w' := by
  have hm := made_any h hl
  unfold MadePost at hm
  rw [hes] at hm
  have HM := Lib.hid hm
  have HNN := Lib.hid hn
  have HAA := Lib.hid hA
  have HBB := Lib.hid hB
  clear hm h hl hes hn hA hB
  go_enter Try.func14, Try.ntmps14
  go_wp2_with fail
  refine HM.out.mono ?_
  rintro e w1 ⟨T, sm, ms, rfl, hmade, hx1⟩
  obtain ⟨p, hp⟩ := rootV_ptr T
  dsimp only [treeV]
  rw [hp]
  have hb2 := Blk.new w1 30 #[.pointer p]
  have hx2 : Ext w1 (w1.alloc (.cells #[.pointer p] 30)) := (Ext.refl w1).alloc _ _
  have hL : RankS (w1.alloc (.cells #[.pointer p] 30)) es T sm ms p w1.heap.size := ⟨hmade.ext hx2, hb2, hp⟩
  have hA := HAA.out
  have hB := HBB.out
  have hns : n ≤ es.length := by rw [← HNN.out]; exact posE_le _ _
  have hfew := hmade.few
  have HLEN := Lib.hid hmade.len
  have hms : ms.length ≤ 400 := by have := HLEN.out; omega
  have hnm : ¬ n < ms.length := by have := HLEN.out; omega
  obtain ⟨j, hj⟩ : ∃ j, n = j + 1 := ⟨n - 1, by omega⟩
  obtain ⟨y, hyj, hye⟩ := ent_at hmade (n := j) (by omega)
  have HYJ := Lib.hid hyj
  have HYE := Lib.hid hye
  clear hyj hye
  have hr8 := rank8_any (hmade.ext hx2).list (by omega) k
  rw [hmade.ms_, posE_not hmade.sorted, HNN.out] at hr8
  have HR8 := Lib.hid hr8
  have hfr := fun W (hW : RankS W es T sm ms p w1.heap.size) => treeFrom_any hW.made.at_ hW.made.ok (by rw [hW.made.ents]; omega) k
  have hbf := fun W (hW : RankS W es T sm ms p w1.heap.size) => treeBefore_any hW.made.at_ hW.made.ok (by rw [hW.made.ents]; omega) k
  have hat := fun W (hW : RankS W es T sm ms p w1.heap.size) => treeAtI_any (i := (n : Int)) hW.made.at_ hW.made.ok (by rw [hW.made.ents]; omega) (by omega) (by omega)
  have hrk := fun W (hW : RankS W es T sm ms p w1.heap.size) => treeRank_any hW.made.at_ hW.made.ok (by rw [hW.made.ents]; omega) k
  rw [treeV, hp, hmade.ents, HNN.out] at hfr hbf hrk
  rw [treeV, hp, hmade.ents] at hat
  rw [show es[n]? = none from (List.getElem?_eq_none (by omega))] at hfr
  rw [show getI es (n : Int) = none from by unfold getI; rw [if_neg (by omega), Int.toNat_natCast]; exact (List.getElem?_eq_none (by omega))] at hat
  rw [show getI es ((n : Int) - 1) = some y.ent from by unfold getI; rw [if_neg (by omega), show ((n : Int) - 1).toNat = j from by omega]; exact HYE.out] at hbf
  have HFR := Lib.hid hfr
  have HBF := Lib.hid hbf
  have HAT := Lib.hid hat
  have HRK := Lib.hid hrk
  have HX2 := Lib.hid (hx1.trans hx2)
  have HL := Lib.hid hL
  have c2 : (w1.alloc (.cells #[.pointer p] 30)).cell? ⟨w1.heap.size, 0, none⟩ = some (.pointer p) := hb2.cell 0
  have l2 := hb2.lt
  have ga : decide ((n : Int) < (ms.length : Int)) = false := decide_eq_false (by omega)
  have ga' : ¬ (n : Int) < (ms.length : Int) := by omega
  have gb : decide ((0 : Int) < (n : Int)) = true := decide_eq_true (by omega)
  have gb' : (0 : Int) < (n : Int) := by omega
  have gb2 : 0 < n := by omega
  clear HM hmade hx1 hb2 hx2 hL hp hr8 hfr hbf hat hrk hA hB
  have HJ := Lib.hid hj
  clear hj
  go_wp2_with fail
  generalize w1.alloc (.cells #[.pointer p] 30) = W0 at *
  generalize w1.heap.size = Bt at *
  refine HR8.out.mono ?_
  rintro e w3 ⟨rfl, hx3⟩
  have HL3 := Lib.hid (HL.out.ext hx3)
  have HX3 := Lib.hid (HX2.out.trans hx3)
  have c3 : w3.cell? ⟨Bt, 0, none⟩ = some (.pointer p) := HL3.out.box.cell 0
  have l3 := HL3.out.box.lt
  clear hx3 c2 l2
  go_wp2_with fail
  refine (HFR.out w3 HL3.out).mono ?_
  rintro e w4 ⟨slx, sox, rfl, hx4, hrvx⟩
  have HL4 := Lib.hid (HL3.out.ext hx4)
  have HX4 := Lib.hid hx4
  have HRX := Lib.hid hrvx
  have c4 : w4.cell? ⟨Bt, 0, none⟩ = some (.pointer p) := HL4.out.box.cell 0
  have l4 := HL4.out.box.lt
  clear hx4 hrvx c3 l3
  go_upto_region 6 with (fail)
  generalize hW5 : World.alloc w4 _ = W5
  have HX5 := Lib.hid (show Ext w4 W5 by rw [← hW5]; exact (Ext.refl w4).alloc _ _)
  have HBX := Lib.hid (show Blk W5 w4.heap.size 56 #[.string noE.1, .int .i64 noE.2.kind, .bool noE.2.b, .int .i64 noE.2.i, .string noE.2.t, .slice slx.a noE.2.l.length slx.c, .slice sox.a noE.2.ok.length sox.c] by rw [← hW5]; exact Blk.new w4 _ _)
  have HL5 := Lib.hid (HL4.out.ext HX5.out)
  have c5 : W5.cell? ⟨Bt, 0, none⟩ = some (.pointer p) := HL5.out.box.cell 0
  have l5 := HL5.out.box.lt
  clear hW5 c4 l4
  go_wp2_with fail
  refine (HBF.out W5 HL5.out).mono ?_
  rintro e w6 ⟨sly, soy, rfl, hx6, hrvy⟩
  have HL6 := Lib.hid (HL5.out.ext hx6)
  have HX6 := Lib.hid hx6
  have HRY := Lib.hid hrvy
  have c6 : w6.cell? ⟨Bt, 0, none⟩ = some (.pointer p) := HL6.out.box.cell 0
  have l6 := HL6.out.box.lt
  clear hx6 hrvy c5 l5
  go_upto_region 7 with (fail)
  generalize hW7 : World.alloc w6 _ = W7
  have HX7 := Lib.hid (show Ext w6 W7 by rw [← hW7]; exact (Ext.refl w6).alloc _ _)
  have HBY := Lib.hid (show Blk W7 w6.heap.size 56 #[.string y.k, .int .i64 y.v.kind, .bool y.v.b, .int .i64 y.v.i, .string y.v.t, .slice sly.a y.v.l.length sly.c, .slice soy.a y.v.ok.length soy.c] by rw [← hW7]; exact Blk.new w6 _ _)
  have HL7 := Lib.hid (HL6.out.ext HX7.out)
  have c7 : W7.cell? ⟨Bt, 0, none⟩ = some (.pointer p) := HL7.out.box.cell 0
  have l7 := HL7.out.box.lt
  clear hW7 c6 l6
  go_wp2_with fail
  refine (HAT.out W7 HL7.out).mono ?_
  rintro e w8 ⟨slz, soz, rfl, hx8, hrvz⟩
  have HL8 := Lib.hid (HL7.out.ext hx8)
  have HX8 := Lib.hid hx8
  have HRZ := Lib.hid hrvz
  clear hx8 hrvz c7 l7
  go_upto_region 8 with (fail)
  generalize hW9 : World.alloc w8 _ = W9
  have HX9 := Lib.hid (show Ext w8 W9 by rw [← hW9]; exact (Ext.refl w8).alloc _ _)
  have HBZ := Lib.hid (show Blk W9 w8.heap.size 56 #[.string noE.1, .int .i64 noE.2.kind, .bool noE.2.b, .int .i64 noE.2.i, .string noE.2.t, .slice slz.a noE.2.l.length slz.c, .slice soz.a noE.2.ok.length soz.c] by rw [← hW9]; exact Blk.new w8 _ _)
  have HL9 := Lib.hid (HL8.out.ext HX9.out)
  have c9 : W9.cell? ⟨Bt, 0, none⟩ = some (.pointer p) := HL9.out.box.cell 0
  have l9 := HL9.out.box.lt
  clear hW9
  go_wp2_with fail
  refine (HRK.out W9 HL9.out).mono ?_
  rintro e wa ⟨rfl, hxa⟩
  have HLA := Lib.hid (HL9.out.ext hxa)
  have HBXA := Lib.hid (((((HBX.out.ext HX6.out).ext HX7.out).ext HX8.out).ext HX9.out).ext hxa)
  have HBYA := Lib.hid (((HBY.out.ext HX8.out).ext HX9.out).ext hxa)
  have HBZA := Lib.hid (HBZ.out.ext hxa)
  have HXW := Lib.hid ((((((((HX3.out.trans HX4.out).trans HX5.out).trans HX6.out).trans HX7.out).trans HX8.out).trans HX9.out)).trans hxa)
  have hw1 : IntKind.i64.wrap ((n : Int) + 1) = (n : Int) + 1 := by rw [IntKind.wrap_i64]; omega
  have hw2 : IntKind.i64.wrap ((n : Int) - 1) = (n : Int) - 1 := by rw [IntKind.wrap_i64]; omega
  have HRYA := Lib.hid (show RV wa (Lt wa.heap.size) y.v sly soy from (HRY.out.agree ((((HX7.out.trans HX8.out).trans HX9.out).trans hxa).agree fun b hb => hb.2)).mono fun b hb => Nat.lt_of_lt_of_le hb.2 (((HX7.out.trans HX8.out).trans HX9.out).trans hxa).size)
  clear hxa c9 l9 HBX HBY HBZ HRX HRY HRZ
  obtain ⟨b, o, ha, hbl, hlc, hcm, -, -, -, hks⟩ := HLA.out.made.list.at HYJ.out
  have hksy := hks
  obtain ⟨sa, sc⟩ := sm
  dsimp only at ha hlc hcm
  subst ha
  have HSS := Lib.hid (show ∀ W, Below wa.heap.size wa W → W.cell? ⟨w6.heap.size, 0, none⟩ = some (.string y.k) ∧ W.cell? ⟨w6.heap.size, 1, none⟩ = some (.int .i64 y.v.kind) ∧ W.cell? ⟨w6.heap.size, 2, none⟩ = some (.bool y.v.b) ∧ W.cell? ⟨w6.heap.size, 3, none⟩ = some (.int .i64 y.v.i) ∧ W.cell? ⟨w6.heap.size, 4, none⟩ = some (.string y.v.t) ∧ W.cell? ⟨w6.heap.size, 5, none⟩ = some (.slice sly.a y.v.l.length sly.c) ∧ W.cell? ⟨w6.heap.size, 6, none⟩ = some (.slice soy.a y.v.ok.length soy.c) from fun W hW => ⟨(Bw.blk HBYA.out hW).cell 0, (Bw.blk HBYA.out hW).cell 1, (Bw.blk HBYA.out hW).cell 2, (Bw.blk HBYA.out hW).cell 3, (Bw.blk HBYA.out hW).cell 4, (Bw.blk HBYA.out hW).cell 5, (Bw.blk HBYA.out hW).cell 6⟩)
  have hlo0 : (0 : Int) ≤ (n : Int) - 1 := by omega
  have hhi1 : (n : Int) ≤ (sc : Int) := by have := HLEN.out; omega
  have hhi0 : (0 : Int) ≤ (n : Int) := by omega
  have htj : ((n : Int) - 1).toNat = j := by have := HJ.out; omega
  have hjn : j ≤ n := by have := HJ.out; omega
  have hjl : (n : Int) - 1 ≤ (n : Int) := by omega
  have hscn : n ≤ sc := by have := HLEN.out; omega
  have h1n : (1 : Int) ≤ (n : Int) := by omega
  have hjsc : ¬ sc = j := by have := HJ.out; have := HLEN.out; omega
  have hnj1 : n - j = 1 := by have := HJ.out; omega
  have HSY := Lib.hid (fun (W : World) (hW : Below wa.heap.size wa W) => same_part HLA.out.made.list HYJ.out HRYA.out hksy (Agree.of_below hW (F := Lt wa.heap.size) fun _ h => h) hW.size)
  go_wp2_with fail
  refine wp_region_held_drew (S := (fun w' => Below wa.heap.size wa w')) (by kernel_rfl) ((((Ext.refl wa).drew).below)) (fun hHeld => ?_)
  refine held_on (i := 0) (d := (some 69)) (v := ?_) rfl rfl (by kernel_rfl) (by kernel_rfl) (by kernel_rfl) (fun _ _ _ h => h) (by rfl) hHeld ?_ ?_
  rotate_left
  focus (intro w hSw; have hSc := HSS.out w hSw; clear hSw; go_simp; first | done | with_reducible rfl)
  try simp only [Act.put, List.setIfInBounds_toArray, List.set_cons_zero, List.set_cons_succ]
  refine held_on (i := 1) (d := (some 70)) (v := ?_) rfl rfl (by kernel_rfl) (by kernel_rfl) (by kernel_rfl) (fun _ _ _ h => h) (by rfl) hHeld ?_ ?_
  rotate_left
  focus (intro w hSw; have hSc := HSS.out w hSw; clear hSw; go_simp; first | done | with_reducible rfl)
  try simp only [Act.put, List.setIfInBounds_toArray, List.set_cons_zero, List.set_cons_succ]
  refine held_off (i := 2) (d := (some 71)) rfl rfl (by kernel_rfl) (by kernel_rfl) (by kernel_rfl) (fun _ _ _ h => h) (by rfl) hHeld ?_
  try simp only [Act.put, List.setIfInBounds_toArray, List.set_cons_zero, List.set_cons_succ]
  refine held_off (i := 3) (d := (some 72)) rfl rfl (by kernel_rfl) (by kernel_rfl) (by kernel_rfl) (fun _ _ _ h => h) (by rfl) hHeld ?_
  try simp only [Act.put, List.setIfInBounds_toArray, List.set_cons_zero, List.set_cons_succ]
  refine held_off (i := 4) (d := (some 73)) rfl rfl (by kernel_rfl) (by kernel_rfl) (by kernel_rfl) (fun _ _ _ h => h) (by rfl) hHeld ?_
  try simp only [Act.put, List.setIfInBounds_toArray, List.set_cons_zero, List.set_cons_succ]
  refine held_off (i := 5) (d := (some 74)) rfl rfl (by kernel_rfl) (by kernel_rfl) (by kernel_rfl) (fun _ _ _ h => h) (by rfl) hHeld ?_
  try simp only [Act.put, List.setIfInBounds_toArray, List.set_cons_zero, List.set_cons_succ]
  refine held_off (i := 6) (d := (some 75)) rfl rfl (by kernel_rfl) (by kernel_rfl) (by kernel_rfl) (fun _ _ _ h => h) (by rfl) hHeld ?_
  try simp only [Act.put, List.setIfInBounds_toArray, List.set_cons_zero, List.set_cons_succ]
  refine held_off (i := 7) (d := (some 76)) rfl rfl (by kernel_rfl) (by kernel_rfl) (by kernel_rfl) (fun _ _ _ h => h) (by rfl) hHeld ?_
  try simp only [Act.put, List.setIfInBounds_toArray, List.set_cons_zero, List.set_cons_succ]
  refine held_off (i := 8) (d := (some 77)) rfl rfl (by kernel_rfl) (by kernel_rfl) (by kernel_rfl) (fun _ _ _ h => h) (by rfl) hHeld ?_
  try simp only [Act.put, List.setIfInBounds_toArray, List.set_cons_zero, List.set_cons_succ]
  refine held_off (i := 9) (d := (some 78)) rfl rfl (by kernel_rfl) (by kernel_rfl) (by kernel_rfl) (fun _ _ _ h => h) (by rfl) hHeld ?_
  try simp only [Act.put, List.setIfInBounds_toArray, List.set_cons_zero, List.set_cons_succ]
  refine held_off (i := 10) (d := (some 79)) rfl rfl (by kernel_rfl) (by kernel_rfl) (by kernel_rfl) (fun _ _ _ h => h) (by rfl) hHeld ?_
  try simp only [Act.put, List.setIfInBounds_toArray, List.set_cons_zero, List.set_cons_succ]
  refine held_off (i := 11) (d := (some 80)) rfl rfl (by kernel_rfl) (by kernel_rfl) (by kernel_rfl) (fun _ _ _ h => h) (by rfl) hHeld ?_
  try simp only [Act.put, List.setIfInBounds_toArray, List.set_cons_zero, List.set_cons_succ]
  refine held_off (i := 12) (d := (some 81)) rfl rfl (by kernel_rfl) (by kernel_rfl) (by kernel_rfl) (fun _ _ _ h => h) (by rfl) hHeld ?_
  try simp only [Act.put, List.setIfInBounds_toArray, List.set_cons_zero, List.set_cons_succ]
  refine held_off (i := 13) (d := (some 82)) rfl rfl (by kernel_rfl) (by kernel_rfl) (by kernel_rfl) (fun _ _ _ h => h) (by rfl) hHeld ?_
  try simp only [Act.put, List.setIfInBounds_toArray, List.set_cons_zero, List.set_cons_succ]
  refine held_off (i := 14) (d := (some 83)) rfl rfl (by kernel_rfl) (by kernel_rfl) (by kernel_rfl) (fun _ _ _ h => h) (by rfl) hHeld ?_
  try simp only [Act.put, List.setIfInBounds_toArray, List.set_cons_zero, List.set_cons_succ]
  refine held_off (i := 15) (d := (some 84)) rfl rfl (by kernel_rfl) (by kernel_rfl) (by kernel_rfl) (fun _ _ _ h => h) (by rfl) hHeld ?_
  try simp only [Act.put, List.setIfInBounds_toArray, List.set_cons_zero, List.set_cons_succ]
  refine held_off (i := 16) (d := (some 85)) rfl rfl (by kernel_rfl) (by kernel_rfl) (by kernel_rfl) (fun _ _ _ h => h) (by rfl) hHeld ?_
  try simp only [Act.put, List.setIfInBounds_toArray, List.set_cons_zero, List.set_cons_succ]
  refine held_off (i := 17) (d := (some 86)) rfl rfl (by kernel_rfl) (by kernel_rfl) (by kernel_rfl) (fun _ _ _ h => h) (by rfl) hHeld ?_
  try simp only [Act.put, List.setIfInBounds_toArray, List.set_cons_zero, List.set_cons_succ]
  refine held_off (i := 18) (d := (some 87)) rfl rfl (by kernel_rfl) (by kernel_rfl) (by kernel_rfl) (fun _ _ _ h => h) (by rfl) hHeld ?_
  try simp only [Act.put, List.setIfInBounds_toArray, List.set_cons_zero, List.set_cons_succ]
  refine held_off (i := 19) (d := (some 88)) rfl rfl (by kernel_rfl) (by kernel_rfl) (by kernel_rfl) (fun _ _ _ h => h) (by rfl) hHeld ?_
  try simp only [Act.put, List.setIfInBounds_toArray, List.set_cons_zero, List.set_cons_succ]
  refine held_off (i := 20) (d := (some 89)) rfl rfl (by kernel_rfl) (by kernel_rfl) (by kernel_rfl) (fun _ _ _ h => h) (by rfl) hHeld ?_
  try simp only [Act.put, List.setIfInBounds_toArray, List.set_cons_zero, List.set_cons_succ]
  refine held_off (i := 21) (d := (some 90)) rfl rfl (by kernel_rfl) (by kernel_rfl) (by kernel_rfl) (fun _ _ _ h => h) (by rfl) hHeld ?_
  try simp only [Act.put, List.setIfInBounds_toArray, List.set_cons_zero, List.set_cons_succ]
  refine held_on (i := 22) (d := (some 91)) (v := ?_) rfl rfl (by kernel_rfl) (by kernel_rfl) (by kernel_rfl) (fun _ _ _ h => h) (by rfl) hHeld ?_ ?_
  rotate_left
  focus (intro w hSw; have hSc := HSS.out w hSw; clear hSw; go_simp; first | done | with_reducible rfl)
  try simp only [Act.put, List.setIfInBounds_toArray, List.set_cons_zero, List.set_cons_succ]
  refine wpAnyH_done (by kernel_rfl) ?_ _
  have hh10 := hHeld
  clear hHeld
  go_wp2_with fail
  refine wp_region_held_drew (S := (fun w' => Below wa.heap.size wa w')) (by kernel_rfl) ((hh10.drew)) (fun hHeld => ?_)
  refine held_on (i := 0) (d := (some 92)) (v := ?_) rfl rfl (by kernel_rfl) (by kernel_rfl) (by kernel_rfl) (fun _ _ _ h => h) (by rfl) hHeld ?_ ?_
  rotate_left
  focus (intro w hSw; have hSc := HSS.out w hSw; clear hSw; go_simp; first | done | with_reducible rfl)
  try simp only [Act.put, List.setIfInBounds_toArray, List.set_cons_zero, List.set_cons_succ]
  refine held_on (i := 1) (d := (some 93)) (v := ?_) rfl rfl (by kernel_rfl) (by kernel_rfl) (by kernel_rfl) (fun _ _ _ h => h) (by rfl) hHeld ?_ ?_
  rotate_left
  focus (intro w hSw; have hSc := HSS.out w hSw; clear hSw; go_simp; first | done | with_reducible rfl)
  try simp only [Act.put, List.setIfInBounds_toArray, List.set_cons_zero, List.set_cons_succ]
  refine held_on (i := 2) (d := (some 94)) (v := ?_) rfl rfl (by kernel_rfl) (by kernel_rfl) (by kernel_rfl) (fun _ _ _ h => h) (by rfl) hHeld ?_ ?_
  rotate_left
  focus (intro w hSw; have hSc := HSS.out w hSw; clear hSw; go_simp; first | done | with_reducible rfl)
  try simp only [Act.put, List.setIfInBounds_toArray, List.set_cons_zero, List.set_cons_succ]
  refine held_on (i := 3) (d := (some 95)) (v := ?_) rfl rfl (by kernel_rfl) (by kernel_rfl) (by kernel_rfl) (fun _ _ _ h => h) (by rfl) hHeld ?_ ?_
  rotate_left
  focus (intro w hSw; have hSc := HSS.out w hSw; clear hSw; go_simp; first | done | with_reducible rfl)
  try simp only [Act.put, List.setIfInBounds_toArray, List.set_cons_zero, List.set_cons_succ]
  refine held_on (i := 5) (d := (some 97)) (v := ?_) rfl rfl (by kernel_rfl) (by kernel_rfl) (by kernel_rfl) (fun _ _ _ h => h) (by rfl) hHeld ?_ ?_
  rotate_left
  focus (intro w hSw; have hSc := HSS.out w hSw; clear hSw; go_simp; first | done | with_reducible rfl)
  try simp only [Act.put, List.setIfInBounds_toArray, List.set_cons_zero, List.set_cons_succ]
  refine held_on (i := 6) (d := (some 98)) (v := ?_) rfl rfl (by kernel_rfl) (by kernel_rfl) (by kernel_rfl) (fun _ _ _ h => h) (by rfl) hHeld ?_ ?_
  rotate_left
  focus (intro w hSw; have hSc := HSS.out w hSw; clear hSw; go_simp; first | done | with_reducible rfl)
  try simp only [Act.put, List.setIfInBounds_toArray, List.set_cons_zero, List.set_cons_succ]
  refine held_on (i := 7) (d := (some 99)) (v := ?_) rfl rfl (by kernel_rfl) (by kernel_rfl) (by kernel_rfl) (fun _ _ _ h => h) (by rfl) hHeld ?_ ?_
  rotate_left
  focus (intro w hSw; have hSc := HSS.out w hSw; clear hSw; go_simp; first | done | with_reducible rfl)
  try simp only [Act.put, List.setIfInBounds_toArray, List.set_cons_zero, List.set_cons_succ]
  refine held_on (i := 8) (d := (some 100)) (v := ?_) rfl rfl (by kernel_rfl) (by kernel_rfl) (by kernel_rfl) (fun _ _ _ h => h) (by rfl) hHeld ?_ ?_
  rotate_left
  focus (intro w hSw; have hSc := HSS.out w hSw; clear hSw; go_simp; first | done | with_reducible rfl)
  try simp only [Act.put, List.setIfInBounds_toArray, List.set_cons_zero, List.set_cons_succ]
  refine held_on (i := 9) (d := (some 101)) (v := ?_) rfl rfl (by kernel_rfl) (by kernel_rfl) (by kernel_rfl) (fun _ _ _ h => h) (by rfl) hHeld ?_ ?_
  rotate_left
  focus (intro w hSw; have hSc := HSS.out w hSw; clear hSw; go_simp; first | done | with_reducible rfl)
  try simp only [Act.put, List.setIfInBounds_toArray, List.set_cons_zero, List.set_cons_succ]
  have hh4 := hHeld
  refine held_call (i := 4) (by kernel_rfl) rfl (by rfl) (fun K hK => ?_)
  go_simp
  skip
  refine hK.out _ _ (hHeld.alloc hHeld.size _) (fun hHeld => ?_)
  clear hK K
  try simp only [Act.put, List.setIfInBounds_toArray, List.set_cons_zero, List.set_cons_succ]
  refine held_call (i := 10) (by kernel_rfl) rfl (by rfl) (fun K hK => ?_)
  go_simp
  (refine (HSY.out _ hh4).mono ?_; rintro e wd ⟨rfl, hxd⟩)
  refine hK.out _ _ (Bw.ext hh4 hxd) (fun hHeld => ?_)
  clear hK K
  try simp only [Act.put, List.setIfInBounds_toArray, List.set_cons_zero, List.set_cons_succ]
  refine held_on (i := 11) (d := (some 103)) (v := ?_) rfl rfl (by kernel_rfl) (by kernel_rfl) (by kernel_rfl) (fun _ _ _ h => h) (by rfl) hHeld ?_ ?_
  rotate_left
  focus (intro w hSw; have hSc := HSS.out w hSw; clear hSw; go_simp; first | done | with_reducible rfl)
  try simp only [Act.put, List.setIfInBounds_toArray, List.set_cons_zero, List.set_cons_succ]
  refine held_on (i := 12) (d := (some 104)) (v := ?_) rfl rfl (by kernel_rfl) (by kernel_rfl) (by kernel_rfl) (fun _ _ _ h => h) (by rfl) hHeld ?_ ?_
  rotate_left
  focus (intro w hSw; have hSc := HSS.out w hSw; clear hSw; go_simp; first | done | with_reducible rfl)
  try simp only [Act.put, List.setIfInBounds_toArray, List.set_cons_zero, List.set_cons_succ]
  refine held_call (i := 13) (by kernel_rfl) rfl (by rfl) (fun K hK => ?_)
  go_simp
  (refine (known08 _).mono ?_; rintro e we ⟨rfl, hbe⟩)
  refine hK.out _ _ (Bw.trans hHeld hbe) (fun hHeld => ?_)
  clear hK K
  try simp only [Act.put, List.setIfInBounds_toArray, List.set_cons_zero, List.set_cons_succ]
  refine held_on (i := 14) (d := (some 106)) (v := ?_) rfl rfl (by kernel_rfl) (by kernel_rfl) (by kernel_rfl) (fun _ _ _ h => h) (by rfl) hHeld ?_ ?_
  rotate_left
  focus (intro w hSw; have hSc := HSS.out w hSw; clear hSw; go_simp; first | done | with_reducible rfl)
  try simp only [Act.put, List.setIfInBounds_toArray, List.set_cons_zero, List.set_cons_succ]
  refine held_on (i := 15) (d := (some 4)) (v := ?_) rfl rfl (by kernel_rfl) (by kernel_rfl) (by kernel_rfl) (fun _ _ _ h => h) (by rfl) hHeld ?_ ?_
  rotate_left
  focus (intro w hSw; have hSc := HSS.out w hSw; clear hSw; go_simp; first | done | with_reducible rfl)
  try simp only [Act.put, List.setIfInBounds_toArray, List.set_cons_zero, List.set_cons_succ]
  refine wpAnyH_done (by kernel_rfl) ?_ _
  have HBE := Lib.hid (HXW.out.below.trans (hHeld.mono HXW.out.size))
  clear hHeld
  go_wp2_with fail
  go_ret
  exact ⟨rfl, HBE.out⟩
set_option maxRecDepth 100000 in
set_option maxHeartbeats 8000000 in
theorem scanrank_ff {w : World} {s : Sl} {xs : List LE} (k : ByteArray) (h : ES w (Lt w.heap.size) s xs) (hl : xs.length ≤ 400) {es : List Ent} (hes : putAll [] (xs.map LE.ent) = es) {n : Nat} (hn : posE es k = n) (hA : n = es.length) (hB : n = 0) : Calls Try.prog 14 #[.slice s.a xs.length s.c, .string k] w fun e w' => e = .returned (.bool true) ∧ Below w.heap.size w w' := by
  have hm := made_any h hl
  unfold MadePost at hm
  rw [hes] at hm
  have HM := Lib.hid hm
  have HNN := Lib.hid hn
  have HAA := Lib.hid hA
  have HBB := Lib.hid hB
  clear hm h hl hes hn hA hB
  go_enter Try.func14, Try.ntmps14
  go_wp2_with fail
  refine HM.out.mono ?_
  rintro e w1 ⟨T, sm, ms, rfl, hmade, hx1⟩
  obtain ⟨p, hp⟩ := rootV_ptr T
  dsimp only [treeV]
  rw [hp]
  have hb2 := Blk.new w1 30 #[.pointer p]
  have hx2 : Ext w1 (w1.alloc (.cells #[.pointer p] 30)) := (Ext.refl w1).alloc _ _
  have hL : RankS (w1.alloc (.cells #[.pointer p] 30)) es T sm ms p w1.heap.size := ⟨hmade.ext hx2, hb2, hp⟩
  have hA := HAA.out
  have hB := HBB.out
  have hns : n ≤ es.length := by rw [← HNN.out]; exact posE_le _ _
  have hfew := hmade.few
  have HLEN := Lib.hid hmade.len
  have hms : ms.length ≤ 400 := by have := HLEN.out; omega
  have hnm : ¬ n < ms.length := by have := HLEN.out; omega
  have hr8 := rank8_any (hmade.ext hx2).list (by omega) k
  rw [hmade.ms_, posE_not hmade.sorted, HNN.out] at hr8
  have HR8 := Lib.hid hr8
  have hfr := fun W (hW : RankS W es T sm ms p w1.heap.size) => treeFrom_any hW.made.at_ hW.made.ok (by rw [hW.made.ents]; omega) k
  have hbf := fun W (hW : RankS W es T sm ms p w1.heap.size) => treeBefore_any hW.made.at_ hW.made.ok (by rw [hW.made.ents]; omega) k
  have hat := fun W (hW : RankS W es T sm ms p w1.heap.size) => treeAtI_any (i := (n : Int)) hW.made.at_ hW.made.ok (by rw [hW.made.ents]; omega) (by omega) (by omega)
  have hrk := fun W (hW : RankS W es T sm ms p w1.heap.size) => treeRank_any hW.made.at_ hW.made.ok (by rw [hW.made.ents]; omega) k
  rw [treeV, hp, hmade.ents, HNN.out] at hfr hbf hrk
  rw [treeV, hp, hmade.ents] at hat
  rw [show es[n]? = none from (List.getElem?_eq_none (by omega))] at hfr
  rw [show getI es (n : Int) = none from by unfold getI; rw [if_neg (by omega), Int.toNat_natCast]; exact (List.getElem?_eq_none (by omega))] at hat
  rw [show getI es ((n : Int) - 1) = none from by unfold getI; rw [if_pos (by omega)]] at hbf
  have HFR := Lib.hid hfr
  have HBF := Lib.hid hbf
  have HAT := Lib.hid hat
  have HRK := Lib.hid hrk
  have HX2 := Lib.hid (hx1.trans hx2)
  have HL := Lib.hid hL
  have c2 : (w1.alloc (.cells #[.pointer p] 30)).cell? ⟨w1.heap.size, 0, none⟩ = some (.pointer p) := hb2.cell 0
  have l2 := hb2.lt
  have ga : decide ((n : Int) < (ms.length : Int)) = false := decide_eq_false (by omega)
  have ga' : ¬ (n : Int) < (ms.length : Int) := by omega
  have gb : decide ((0 : Int) < (n : Int)) = false := decide_eq_false (by omega)
  have gb' : ¬ (0 : Int) < (n : Int) := by omega
  have gb2 : ¬ 0 < n := by omega
  clear HM hmade hx1 hb2 hx2 hL hp hr8 hfr hbf hat hrk hA hB
  go_wp2_with fail
  generalize w1.alloc (.cells #[.pointer p] 30) = W0 at *
  generalize w1.heap.size = Bt at *
  refine HR8.out.mono ?_
  rintro e w3 ⟨rfl, hx3⟩
  have HL3 := Lib.hid (HL.out.ext hx3)
  have HX3 := Lib.hid (HX2.out.trans hx3)
  have c3 : w3.cell? ⟨Bt, 0, none⟩ = some (.pointer p) := HL3.out.box.cell 0
  have l3 := HL3.out.box.lt
  clear hx3 c2 l2
  go_wp2_with fail
  refine (HFR.out w3 HL3.out).mono ?_
  rintro e w4 ⟨slx, sox, rfl, hx4, hrvx⟩
  have HL4 := Lib.hid (HL3.out.ext hx4)
  have HX4 := Lib.hid hx4
  have HRX := Lib.hid hrvx
  have c4 : w4.cell? ⟨Bt, 0, none⟩ = some (.pointer p) := HL4.out.box.cell 0
  have l4 := HL4.out.box.lt
  clear hx4 hrvx c3 l3
  go_upto_region 6 with (fail)
  generalize hW5 : World.alloc w4 _ = W5
  have HX5 := Lib.hid (show Ext w4 W5 by rw [← hW5]; exact (Ext.refl w4).alloc _ _)
  have HBX := Lib.hid (show Blk W5 w4.heap.size 56 #[.string noE.1, .int .i64 noE.2.kind, .bool noE.2.b, .int .i64 noE.2.i, .string noE.2.t, .slice slx.a noE.2.l.length slx.c, .slice sox.a noE.2.ok.length sox.c] by rw [← hW5]; exact Blk.new w4 _ _)
  have HL5 := Lib.hid (HL4.out.ext HX5.out)
  have c5 : W5.cell? ⟨Bt, 0, none⟩ = some (.pointer p) := HL5.out.box.cell 0
  have l5 := HL5.out.box.lt
  clear hW5 c4 l4
  go_wp2_with fail
  refine (HBF.out W5 HL5.out).mono ?_
  rintro e w6 ⟨sly, soy, rfl, hx6, hrvy⟩
  have HL6 := Lib.hid (HL5.out.ext hx6)
  have HX6 := Lib.hid hx6
  have HRY := Lib.hid hrvy
  have c6 : w6.cell? ⟨Bt, 0, none⟩ = some (.pointer p) := HL6.out.box.cell 0
  have l6 := HL6.out.box.lt
  clear hx6 hrvy c5 l5
  go_upto_region 7 with (fail)
  generalize hW7 : World.alloc w6 _ = W7
  have HX7 := Lib.hid (show Ext w6 W7 by rw [← hW7]; exact (Ext.refl w6).alloc _ _)
  have HBY := Lib.hid (show Blk W7 w6.heap.size 56 #[.string noE.1, .int .i64 noE.2.kind, .bool noE.2.b, .int .i64 noE.2.i, .string noE.2.t, .slice sly.a noE.2.l.length sly.c, .slice soy.a noE.2.ok.length soy.c] by rw [← hW7]; exact Blk.new w6 _ _)
  have HL7 := Lib.hid (HL6.out.ext HX7.out)
  have c7 : W7.cell? ⟨Bt, 0, none⟩ = some (.pointer p) := HL7.out.box.cell 0
  have l7 := HL7.out.box.lt
  clear hW7 c6 l6
  go_wp2_with fail
  refine (HAT.out W7 HL7.out).mono ?_
  rintro e w8 ⟨slz, soz, rfl, hx8, hrvz⟩
  have HL8 := Lib.hid (HL7.out.ext hx8)
  have HX8 := Lib.hid hx8
  have HRZ := Lib.hid hrvz
  clear hx8 hrvz c7 l7
  go_upto_region 8 with (fail)
  generalize hW9 : World.alloc w8 _ = W9
  have HX9 := Lib.hid (show Ext w8 W9 by rw [← hW9]; exact (Ext.refl w8).alloc _ _)
  have HBZ := Lib.hid (show Blk W9 w8.heap.size 56 #[.string noE.1, .int .i64 noE.2.kind, .bool noE.2.b, .int .i64 noE.2.i, .string noE.2.t, .slice slz.a noE.2.l.length slz.c, .slice soz.a noE.2.ok.length soz.c] by rw [← hW9]; exact Blk.new w8 _ _)
  have HL9 := Lib.hid (HL8.out.ext HX9.out)
  have c9 : W9.cell? ⟨Bt, 0, none⟩ = some (.pointer p) := HL9.out.box.cell 0
  have l9 := HL9.out.box.lt
  clear hW9
  go_wp2_with fail
  refine (HRK.out W9 HL9.out).mono ?_
  rintro e wa ⟨rfl, hxa⟩
  have HLA := Lib.hid (HL9.out.ext hxa)
  have HBXA := Lib.hid (((((HBX.out.ext HX6.out).ext HX7.out).ext HX8.out).ext HX9.out).ext hxa)
  have HBYA := Lib.hid (((HBY.out.ext HX8.out).ext HX9.out).ext hxa)
  have HBZA := Lib.hid (HBZ.out.ext hxa)
  have HXW := Lib.hid ((((((((HX3.out.trans HX4.out).trans HX5.out).trans HX6.out).trans HX7.out).trans HX8.out).trans HX9.out)).trans hxa)
  have hw1 : IntKind.i64.wrap ((n : Int) + 1) = (n : Int) + 1 := by rw [IntKind.wrap_i64]; omega
  have hw2 : IntKind.i64.wrap ((n : Int) - 1) = (n : Int) - 1 := by rw [IntKind.wrap_i64]; omega
  clear hxa c9 l9 HBX HBY HBZ HRX HRY HRZ
  have HSS := Lib.hid (show ∀ W, Below wa.heap.size wa W → True from fun W hW => trivial)
  go_wp2_with fail
  refine wp_region_held_drew (S := (fun w' => Below wa.heap.size wa w')) (by kernel_rfl) ((((Ext.refl wa).drew).below)) (fun hHeld => ?_)
  refine held_on (i := 0) (d := (some 69)) (v := ?_) rfl rfl (by kernel_rfl) (by kernel_rfl) (by kernel_rfl) (fun _ _ _ h => h) (by rfl) hHeld ?_ ?_
  rotate_left
  focus (intro w hSw; have hSc := HSS.out w hSw; clear hSw; go_simp; first | done | with_reducible rfl)
  try simp only [Act.put, List.setIfInBounds_toArray, List.set_cons_zero, List.set_cons_succ]
  refine held_on (i := 1) (d := (some 70)) (v := ?_) rfl rfl (by kernel_rfl) (by kernel_rfl) (by kernel_rfl) (fun _ _ _ h => h) (by rfl) hHeld ?_ ?_
  rotate_left
  focus (intro w hSw; have hSc := HSS.out w hSw; clear hSw; go_simp; first | done | with_reducible rfl)
  try simp only [Act.put, List.setIfInBounds_toArray, List.set_cons_zero, List.set_cons_succ]
  refine held_off (i := 2) (d := (some 71)) rfl rfl (by kernel_rfl) (by kernel_rfl) (by kernel_rfl) (fun _ _ _ h => h) (by rfl) hHeld ?_
  try simp only [Act.put, List.setIfInBounds_toArray, List.set_cons_zero, List.set_cons_succ]
  refine held_off (i := 3) (d := (some 72)) rfl rfl (by kernel_rfl) (by kernel_rfl) (by kernel_rfl) (fun _ _ _ h => h) (by rfl) hHeld ?_
  try simp only [Act.put, List.setIfInBounds_toArray, List.set_cons_zero, List.set_cons_succ]
  refine held_off (i := 4) (d := (some 73)) rfl rfl (by kernel_rfl) (by kernel_rfl) (by kernel_rfl) (fun _ _ _ h => h) (by rfl) hHeld ?_
  try simp only [Act.put, List.setIfInBounds_toArray, List.set_cons_zero, List.set_cons_succ]
  refine held_off (i := 5) (d := (some 74)) rfl rfl (by kernel_rfl) (by kernel_rfl) (by kernel_rfl) (fun _ _ _ h => h) (by rfl) hHeld ?_
  try simp only [Act.put, List.setIfInBounds_toArray, List.set_cons_zero, List.set_cons_succ]
  refine held_off (i := 6) (d := (some 75)) rfl rfl (by kernel_rfl) (by kernel_rfl) (by kernel_rfl) (fun _ _ _ h => h) (by rfl) hHeld ?_
  try simp only [Act.put, List.setIfInBounds_toArray, List.set_cons_zero, List.set_cons_succ]
  refine held_off (i := 7) (d := (some 76)) rfl rfl (by kernel_rfl) (by kernel_rfl) (by kernel_rfl) (fun _ _ _ h => h) (by rfl) hHeld ?_
  try simp only [Act.put, List.setIfInBounds_toArray, List.set_cons_zero, List.set_cons_succ]
  refine held_off (i := 8) (d := (some 77)) rfl rfl (by kernel_rfl) (by kernel_rfl) (by kernel_rfl) (fun _ _ _ h => h) (by rfl) hHeld ?_
  try simp only [Act.put, List.setIfInBounds_toArray, List.set_cons_zero, List.set_cons_succ]
  refine held_off (i := 9) (d := (some 78)) rfl rfl (by kernel_rfl) (by kernel_rfl) (by kernel_rfl) (fun _ _ _ h => h) (by rfl) hHeld ?_
  try simp only [Act.put, List.setIfInBounds_toArray, List.set_cons_zero, List.set_cons_succ]
  refine held_off (i := 10) (d := (some 79)) rfl rfl (by kernel_rfl) (by kernel_rfl) (by kernel_rfl) (fun _ _ _ h => h) (by rfl) hHeld ?_
  try simp only [Act.put, List.setIfInBounds_toArray, List.set_cons_zero, List.set_cons_succ]
  refine held_off (i := 11) (d := (some 80)) rfl rfl (by kernel_rfl) (by kernel_rfl) (by kernel_rfl) (fun _ _ _ h => h) (by rfl) hHeld ?_
  try simp only [Act.put, List.setIfInBounds_toArray, List.set_cons_zero, List.set_cons_succ]
  refine held_off (i := 12) (d := (some 81)) rfl rfl (by kernel_rfl) (by kernel_rfl) (by kernel_rfl) (fun _ _ _ h => h) (by rfl) hHeld ?_
  try simp only [Act.put, List.setIfInBounds_toArray, List.set_cons_zero, List.set_cons_succ]
  refine held_off (i := 13) (d := (some 82)) rfl rfl (by kernel_rfl) (by kernel_rfl) (by kernel_rfl) (fun _ _ _ h => h) (by rfl) hHeld ?_
  try simp only [Act.put, List.setIfInBounds_toArray, List.set_cons_zero, List.set_cons_succ]
  refine held_off (i := 14) (d := (some 83)) rfl rfl (by kernel_rfl) (by kernel_rfl) (by kernel_rfl) (fun _ _ _ h => h) (by rfl) hHeld ?_
  try simp only [Act.put, List.setIfInBounds_toArray, List.set_cons_zero, List.set_cons_succ]
  refine held_off (i := 15) (d := (some 84)) rfl rfl (by kernel_rfl) (by kernel_rfl) (by kernel_rfl) (fun _ _ _ h => h) (by rfl) hHeld ?_
  try simp only [Act.put, List.setIfInBounds_toArray, List.set_cons_zero, List.set_cons_succ]
  refine held_off (i := 16) (d := (some 85)) rfl rfl (by kernel_rfl) (by kernel_rfl) (by kernel_rfl) (fun _ _ _ h => h) (by rfl) hHeld ?_
  try simp only [Act.put, List.setIfInBounds_toArray, List.set_cons_zero, List.set_cons_succ]
  refine held_off (i := 17) (d := (some 86)) rfl rfl (by kernel_rfl) (by kernel_rfl) (by kernel_rfl) (fun _ _ _ h => h) (by rfl) hHeld ?_
  try simp only [Act.put, List.setIfInBounds_toArray, List.set_cons_zero, List.set_cons_succ]
  refine held_off (i := 18) (d := (some 87)) rfl rfl (by kernel_rfl) (by kernel_rfl) (by kernel_rfl) (fun _ _ _ h => h) (by rfl) hHeld ?_
  try simp only [Act.put, List.setIfInBounds_toArray, List.set_cons_zero, List.set_cons_succ]
  refine held_off (i := 19) (d := (some 88)) rfl rfl (by kernel_rfl) (by kernel_rfl) (by kernel_rfl) (fun _ _ _ h => h) (by rfl) hHeld ?_
  try simp only [Act.put, List.setIfInBounds_toArray, List.set_cons_zero, List.set_cons_succ]
  refine held_off (i := 20) (d := (some 89)) rfl rfl (by kernel_rfl) (by kernel_rfl) (by kernel_rfl) (fun _ _ _ h => h) (by rfl) hHeld ?_
  try simp only [Act.put, List.setIfInBounds_toArray, List.set_cons_zero, List.set_cons_succ]
  refine held_off (i := 21) (d := (some 90)) rfl rfl (by kernel_rfl) (by kernel_rfl) (by kernel_rfl) (fun _ _ _ h => h) (by rfl) hHeld ?_
  try simp only [Act.put, List.setIfInBounds_toArray, List.set_cons_zero, List.set_cons_succ]
  refine held_on (i := 22) (d := (some 91)) (v := ?_) rfl rfl (by kernel_rfl) (by kernel_rfl) (by kernel_rfl) (fun _ _ _ h => h) (by rfl) hHeld ?_ ?_
  rotate_left
  focus (intro w hSw; have hSc := HSS.out w hSw; clear hSw; go_simp; first | done | with_reducible rfl)
  try simp only [Act.put, List.setIfInBounds_toArray, List.set_cons_zero, List.set_cons_succ]
  refine wpAnyH_done (by kernel_rfl) ?_ _
  have hh10 := hHeld
  clear hHeld
  go_wp2_with fail
  refine wp_region_held_drew (S := (fun w' => Below wa.heap.size wa w')) (by kernel_rfl) ((hh10.drew)) (fun hHeld => ?_)
  refine held_on (i := 0) (d := (some 92)) (v := ?_) rfl rfl (by kernel_rfl) (by kernel_rfl) (by kernel_rfl) (fun _ _ _ h => h) (by rfl) hHeld ?_ ?_
  rotate_left
  focus (intro w hSw; have hSc := HSS.out w hSw; clear hSw; go_simp; first | done | with_reducible rfl)
  try simp only [Act.put, List.setIfInBounds_toArray, List.set_cons_zero, List.set_cons_succ]
  refine held_on (i := 1) (d := (some 93)) (v := ?_) rfl rfl (by kernel_rfl) (by kernel_rfl) (by kernel_rfl) (fun _ _ _ h => h) (by rfl) hHeld ?_ ?_
  rotate_left
  focus (intro w hSw; have hSc := HSS.out w hSw; clear hSw; go_simp; first | done | with_reducible rfl)
  try simp only [Act.put, List.setIfInBounds_toArray, List.set_cons_zero, List.set_cons_succ]
  refine held_on (i := 2) (d := (some 94)) (v := ?_) rfl rfl (by kernel_rfl) (by kernel_rfl) (by kernel_rfl) (fun _ _ _ h => h) (by rfl) hHeld ?_ ?_
  rotate_left
  focus (intro w hSw; have hSc := HSS.out w hSw; clear hSw; go_simp; first | done | with_reducible rfl)
  try simp only [Act.put, List.setIfInBounds_toArray, List.set_cons_zero, List.set_cons_succ]
  refine held_off (i := 3) (d := (some 95)) rfl rfl (by kernel_rfl) (by kernel_rfl) (by kernel_rfl) (fun _ _ _ h => h) (by rfl) hHeld ?_
  try simp only [Act.put, List.setIfInBounds_toArray, List.set_cons_zero, List.set_cons_succ]
  refine held_off (i := 4) (d := (some 96)) rfl rfl (by kernel_rfl) (by kernel_rfl) (by kernel_rfl) (fun _ _ _ h => h) (by rfl) hHeld ?_
  try simp only [Act.put, List.setIfInBounds_toArray, List.set_cons_zero, List.set_cons_succ]
  refine held_off (i := 5) (d := (some 97)) rfl rfl (by kernel_rfl) (by kernel_rfl) (by kernel_rfl) (fun _ _ _ h => h) (by rfl) hHeld ?_
  try simp only [Act.put, List.setIfInBounds_toArray, List.set_cons_zero, List.set_cons_succ]
  refine held_off (i := 6) (d := (some 98)) rfl rfl (by kernel_rfl) (by kernel_rfl) (by kernel_rfl) (fun _ _ _ h => h) (by rfl) hHeld ?_
  try simp only [Act.put, List.setIfInBounds_toArray, List.set_cons_zero, List.set_cons_succ]
  refine held_off (i := 7) (d := (some 99)) rfl rfl (by kernel_rfl) (by kernel_rfl) (by kernel_rfl) (fun _ _ _ h => h) (by rfl) hHeld ?_
  try simp only [Act.put, List.setIfInBounds_toArray, List.set_cons_zero, List.set_cons_succ]
  refine held_off (i := 8) (d := (some 100)) rfl rfl (by kernel_rfl) (by kernel_rfl) (by kernel_rfl) (fun _ _ _ h => h) (by rfl) hHeld ?_
  try simp only [Act.put, List.setIfInBounds_toArray, List.set_cons_zero, List.set_cons_succ]
  refine held_off (i := 9) (d := (some 101)) rfl rfl (by kernel_rfl) (by kernel_rfl) (by kernel_rfl) (fun _ _ _ h => h) (by rfl) hHeld ?_
  try simp only [Act.put, List.setIfInBounds_toArray, List.set_cons_zero, List.set_cons_succ]
  refine held_off (i := 10) (d := (some 102)) rfl rfl (by kernel_rfl) (by kernel_rfl) (by kernel_rfl) (fun _ _ _ h => h) (by rfl) hHeld ?_
  try simp only [Act.put, List.setIfInBounds_toArray, List.set_cons_zero, List.set_cons_succ]
  refine held_on (i := 11) (d := (some 103)) (v := ?_) rfl rfl (by kernel_rfl) (by kernel_rfl) (by kernel_rfl) (fun _ _ _ h => h) (by rfl) hHeld ?_ ?_
  rotate_left
  focus (intro w hSw; have hSc := HSS.out w hSw; clear hSw; go_simp; first | done | with_reducible rfl)
  try simp only [Act.put, List.setIfInBounds_toArray, List.set_cons_zero, List.set_cons_succ]
  refine held_on (i := 12) (d := (some 104)) (v := ?_) rfl rfl (by kernel_rfl) (by kernel_rfl) (by kernel_rfl) (fun _ _ _ h => h) (by rfl) hHeld ?_ ?_
  rotate_left
  focus (intro w hSw; have hSc := HSS.out w hSw; clear hSw; go_simp; first | done | with_reducible rfl)
  try simp only [Act.put, List.setIfInBounds_toArray, List.set_cons_zero, List.set_cons_succ]
  refine held_call (i := 13) (by kernel_rfl) rfl (by rfl) (fun K hK => ?_)
  go_simp
  (refine (known08 _).mono ?_; rintro e we ⟨rfl, hbe⟩)
  refine hK.out _ _ (Bw.trans hHeld hbe) (fun hHeld => ?_)
  clear hK K
  try simp only [Act.put, List.setIfInBounds_toArray, List.set_cons_zero, List.set_cons_succ]
  refine held_on (i := 14) (d := (some 106)) (v := ?_) rfl rfl (by kernel_rfl) (by kernel_rfl) (by kernel_rfl) (fun _ _ _ h => h) (by rfl) hHeld ?_ ?_
  rotate_left
  focus (intro w hSw; have hSc := HSS.out w hSw; clear hSw; go_simp; first | done | with_reducible rfl)
  try simp only [Act.put, List.setIfInBounds_toArray, List.set_cons_zero, List.set_cons_succ]
  refine held_on (i := 15) (d := (some 4)) (v := ?_) rfl rfl (by kernel_rfl) (by kernel_rfl) (by kernel_rfl) (fun _ _ _ h => h) (by rfl) hHeld ?_ ?_
  rotate_left
  focus (intro w hSw; have hSc := HSS.out w hSw; clear hSw; go_simp; first | done | with_reducible rfl)
  try simp only [Act.put, List.setIfInBounds_toArray, List.set_cons_zero, List.set_cons_succ]
  refine wpAnyH_done (by kernel_rfl) ?_ _
  have HBE := Lib.hid (HXW.out.below.trans (hHeld.mono HXW.out.size))
  clear hHeld
  go_wp2_with fail
  go_ret
  exact ⟨rfl, HBE.out⟩
theorem scanrank_w (s : Sl) (xs : List LE) (k : ByteArray) (w : World) (h : ES w (Lt w.heap.size) s xs) (hk : k.size ≤ maxLen) : Calls Try.prog 14 #[.slice s.a xs.length s.c, .string k] w fun e w' => e = .returned (.bool true) ∧ Below w.heap.size w w' := by
  by_cases hl : xs.length ≤ 400
  · have hle := posE_le (putAll [] (xs.map LE.ent)) k
    by_cases hA : posE (putAll [] (xs.map LE.ent)) k < (putAll [] (xs.map LE.ent)).length <;> by_cases hB : 0 < posE (putAll [] (xs.map LE.ent)) k
    · exact scanrank_tt k h hl rfl rfl hA hB
    · exact scanrank_tf k h hl rfl rfl hA (by omega)
    · exact scanrank_ft k h hl rfl rfl (by omega) hB
    · exact scanrank_ff k h hl rfl rfl (by omega) (by omega)
  · exact scanrank_not k (by omega)
end Go.Proofs.Ytpapoalgocmlaaa
