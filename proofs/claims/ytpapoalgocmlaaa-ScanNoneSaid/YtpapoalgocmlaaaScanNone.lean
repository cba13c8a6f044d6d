/- ScanNone: what a tree without keys has. -/
import Derived.Test.YtpapoalgocmlaaaLaw8B
namespace Go.Proofs.Ytpapoalgocmlaaa
open Go.RowKit Go.Shelf
set_option linter.unusedVariables false
set_option linter.unusedSimpArgs false
attribute [local go_sem] Oper.semAt_some

theorem eql_func_nil8 {P : Program} (w : World) {t : TypeId} {ps rs : Array TypeId} {b : Bool} (f : Fn) (ta lb : Array Value) (hp : P.underlying t = some (.func ps rs b)) :
    (binOp .eql t (.func f ta lb) .nilFunc).run P w = .ok (.bool false) w := by
  have h : ∀ d : Nat, (Op.equalIn (d + 1) t (.func f ta lb) .nilFunc).run P w = .ok false w := fun d => by
    simp [Op.equalIn, run_underlying hp]
  simp only [binOp]
  simp [Op.equal, Op.maxDepth, h 9999]
theorem none_at (W : World) : TreeAt (fun _ => False) none W := ⟨trivial, fun _ h => h.elim⟩
theorem none_seq {W : World} {B : Nat} {lo hi : ByteArray} {op : Bool} (hB : RangeB W B none lo hi op) : SeqC Try.prog 105 (rangeL B) encE (RangeK (fun _ => False) B) (ScanG []) (fun xs => xs.map LE.ent = []) (fun pre => pre.map LE.ent <+: []) W := by
  have h := range_seq (none_at W) trivial (Nat.zero_le _) hB
  rwa [show rangeE lo hi op (entsT none) = [] from rfl] at h
set_option maxRecDepth 100000 in
set_option maxHeartbeats 8000000 in
theorem scannone_w (w : World) : Calls Try.prog 17 #[] w fun e w' => e = .returned (.bool true) ∧ Below w.heap.size w w' := by
  have hnil := fun (W : World) B => eql_func_nil8 (P := Try.prog) W (t := 96) (.func 105) #[] (rangeL B) Try.underlying96
  have hall := fun W => all_any8 W none
  have hpre := fun W => prefix_any W none ⟨#[255, 255]⟩ (by decide)
  have hfr := fun W => treeFrom_any (none_at W) trivial (Nat.zero_le _) ByteArray.empty
  have hbf := fun W => treeBefore_any (none_at W) trivial (Nat.zero_le _) ⟨#[122]⟩
  have hat := fun W => treeAtI_any (i := 0) (none_at W) trivial (Nat.zero_le _) (by decide) (by decide)
  have hrk := fun W => treeRank_any (none_at W) trivial (Nat.zero_le _) ⟨#[122]⟩
  have hke := fun W => treeKeys_any (none_at W) trivial (Nat.zero_le _) ByteArray.empty (by decide)
  have HAL := Lib.hid (show ∀ W, Calls Try.prog 64 #[.agg #[.pointer none]] W (RangePost none ByteArray.empty ByteArray.empty true W) from hall)
  have HPR := Lib.hid (show ∀ W, Calls Try.prog 56 #[.agg #[.pointer none], .string ⟨#[255, 255]⟩] W (PrefixPost none ⟨#[255, 255]⟩ W) from hpre)
  have HFR := Lib.hid (show ∀ W, Calls Try.prog 59 #[.agg #[.pointer none], .string ByteArray.empty] W (AtIPost none W) from hfr)
  have HBF := Lib.hid (show ∀ W, Calls Try.prog 60 #[.agg #[.pointer none], .string ⟨#[122]⟩] W (AtIPost none W) from hbf)
  have HAT := Lib.hid (show ∀ W, Calls Try.prog 61 #[.agg #[.pointer none], .int .i64 0] W (AtIPost none W) from hat)
  have HRK := Lib.hid (show ∀ W, Calls Try.prog 62 #[.agg #[.pointer none], .string ⟨#[122]⟩] W fun e w' => e = .returned (.int .i64 0) ∧ Ext W w' from hrk)
  have HKE := Lib.hid (show ∀ W, Calls Try.prog 57 #[.agg #[.pointer none], .string ByteArray.empty] W (KeysPost [] W) from hke)
  have HNI := Lib.hid hnil
  clear hnil hall hpre hfr hbf hat hrk hke
  refine (callsIn_wide (n := 6)).1 ?_
  refine callsIn_of_wp_marks Try.func17 rfl trivial ?_ rfl
  simp only [Try.ntmps17, List.size_toArray, List.length_cons, List.length_nil, Nat.reduceAdd, Nat.reduceSub, Array.replicate_succ, Array.replicate_zero, List.push_toArray, List.append_toArray, List.nil_append, List.cons_append]
  gi_wp2_with fail
  generalize hW0 : World.alloc (World.alloc _ _) _ = W0
  obtain ⟨hx0, hz0, hb0, hb1⟩ := two_blocks w _ _ _ _ W0 hW0
  have q1 : W0.cell? ⟨w.heap.size + 1, 0, none⟩ = some (.pointer none) := hb1.cell 0
  have HX0 := Lib.hid hx0
  have HB0 := Lib.hid hb0
  have HB1 := Lib.hid hb1
  clear hW0 hx0 hb0 hb1
  refine ⟨trivial, ?_⟩
  refine (callsIn_wide.2 (HAL.out W0)).mono ?_
  rintro e w1 ⟨B, rfl, hx1, hrb1, hB1⟩
  have q1' : w1.cell? ⟨w.heap.size + 1, 0, none⟩ = some (.pointer none) := (HB1.out.ext hx1).cell 0
  have HX1 := Lib.hid hx1
  have HR1 := Lib.hid hrb1
  clear q1 hx1 hrb1
  gi_wp2_with fail
  refine ⟨trivial, ?_⟩
  refine (callsIn_wide.2 (HPR.out w1)).mono ?_
  rintro e w2 ⟨B2, en, op, rfl, hb2, hrb2, hB2, -⟩
  have hbw2 := Bw.trans HX0.out.below (Bw.trans HX1.out.below hb2)
  have HBW := Lib.hid hbw2
  have HR1' := Lib.hid (HR1.out.agree (Agree.of_below hb2 (F := Lt w1.heap.size) fun _ h => h) (fun b h1 h2 => by have := HR1.out.lt; omega))
  have HR2 := Lib.hid hrb2
  have HC0 := Lib.hid (Bw.blk (HB0.out.ext HX1.out) hb2)
  have HC1 := Lib.hid (Bw.blk (HB1.out.ext HX1.out) hb2)
  have n1 := HNI.out w2 B
  have n2 := HNI.out w2 B2
  have hs2 := hbw2.size
  have hs12 := hb2.size
  have hs01 := HX1.out.size
  clear hb2 hbw2 hrb2 q1'
  gi_wp2_with fail
  refine wpIn_rangeC (gf := 105) (lb := rangeL B) rfl (enters_of Try.func105 (by kernel_rfl) rfl) (none_seq HR1'.out) (Agree.refl _) (Nat.le_refl _)
    (fun b hb => hb.elim (fun h => h.elim) (fun h => by have := HR1'.out.lt; omega)) (fun _ => rfl)
    (fun pre C W => Ext w2 W) (fun _ _ _ => False) (fun _ => False)
    (fun b hb => hb.elim)
    (fun h k => h.step k (fun b hb => by omega)) (fun h k => h) (fun W hW hz => hW) ?round ?done ?stop
  case round =>
    rintro pre C x W0' W1 hI hlt hsz hnL hx01 hG
    exact absurd hG.at_ (by simp)
  case stop =>
    rintro D c pre W hD hSp hX hDk
    exact hX.elim
  case done =>
    rintro D xs C W hD hS hI hDk
    have HDD := Lib.hid hD
    have HI := Lib.hid hI
    have HDK := Lib.hid hDk
    have HR2' := Lib.hid (HR2.out.agree (hI.agree fun b hb => hb) (fun b h1 h2 => by have := HR2.out.lt; omega))
    have hDl := (Array.getElem?_eq_some_iff.1 hDk).1
    have hsI := hI.size
    clear hI hDk hS hD
    gi_wp2_with fail
    refine wpIn_rangeC (gf := 105) (lb := rangeL B2) rfl (enters_of Try.func105 (by kernel_rfl) rfl) (none_seq HR2'.out) (Agree.refl _) (Nat.le_refl _)
      (fun b hb => hb.elim (fun h => h.elim) (fun h => by have := HR2'.out.lt; omega)) (fun _ => rfl)
      (fun pre C W2 => Ext W W2) (fun _ _ _ => False) (fun _ => False)
      (fun b hb => hb.elim)
      (fun h k => h.step k (fun b hb => by omega)) (fun h k => h) (fun W hW hz => hW) ?roundx ?donex ?stopx
    case roundx =>
      rintro pre C x W0' W1 hI hlt hsz hnL hx01 hG
      exact absurd hG.at_ (by simp)
    case stopx =>
      rintro D c pre W hD hSp hX hDk
      exact hX.elim
    case donex =>
      rintro D2 xs2 C2 W2 hD2 hS2 hI2 hDk2
      have HDD2 := Lib.hid hD2
      have hE := HI.out.trans hI2
      have HI2 := Lib.hid hI2
      have HE := Lib.hid hE
      have HDK2 := Lib.hid hDk2
      have HZ0 := Lib.hid (HC0.out.ext hE)
      have HZ1 := Lib.hid (HC1.out.ext hE)
      have c1 : W2.cell? ⟨w.heap.size + 1, 0, none⟩ = some (.pointer none) := HZ1.out.cell 0
      have l1 := HZ1.out.lt
      have hD2l := (Array.getElem?_eq_some_iff.1 hDk2).1
      clear hE hI2 hDk2 hS2 hD2
      gi_wp2_with fail
      refine ⟨trivial, ?_⟩
      refine (callsIn_wide.2 (HFR.out W2)).mono ?_
      rintro e w4 ⟨sl4, so4, rfl, hx4, -⟩
      have HX4 := Lib.hid hx4
      have c4 : w4.cell? ⟨w.heap.size + 1, 0, none⟩ = some (.pointer none) := (HZ1.out.ext hx4).cell 0
      have l4 := (HZ1.out.ext hx4).lt
      clear hx4 c1 l1
      gi_wp2_with fail
      have hx5 : Ext w4 (w4.alloc (.cells #[.string ByteArray.empty, .int .i64 0, .bool false, .int .i64 0, .string ByteArray.empty, .slice sl4.a 0 sl4.c, .slice so4.a 0 so4.c] 56)) := (Ext.refl w4).alloc _ _
      have HX5 := Lib.hid hx5
      clear hx5
      refine ⟨trivial, ?_⟩
      refine (callsIn_wide.2 (HBF.out _)).mono ?_
      rintro e w6 ⟨sl6, so6, rfl, hx6, -⟩
      have hx46 := HX5.out.trans hx6
      have HX6 := Lib.hid (HX4.out.trans hx46)
      have c6 : w6.cell? ⟨w.heap.size + 1, 0, none⟩ = some (.pointer none) := (HZ1.out.ext HX6.out).cell 0
      have l6 := (HZ1.out.ext HX6.out).lt
      clear hx6 hx46 c4 l4 HX5
      gi_wp2_with fail
      have HX7 := Lib.hid (show Ext w6 (w6.alloc (.cells #[.string ByteArray.empty, .int .i64 0, .bool false, .int .i64 0, .string ByteArray.empty, .slice sl6.a 0 sl6.c, .slice so6.a 0 so6.c] 56)) from (Ext.refl w6).alloc _ _)
      refine ⟨trivial, ?_⟩
      refine (callsIn_wide.2 (HAT.out _)).mono ?_
      rintro e w8 ⟨sl8, so8, rfl, hx8, -⟩
      have HX8 := Lib.hid (HX6.out.trans (HX7.out.trans hx8))
      have c8 : w8.cell? ⟨w.heap.size + 1, 0, none⟩ = some (.pointer none) := (HZ1.out.ext HX8.out).cell 0
      have l8 := (HZ1.out.ext HX8.out).lt
      clear hx8 c6 l6 HX7
      gi_wp2_with fail
      have HX9 := Lib.hid (show Ext w8 (w8.alloc (.cells #[.string ByteArray.empty, .int .i64 0, .bool false, .int .i64 0, .string ByteArray.empty, .slice sl8.a 0 sl8.c, .slice so8.a 0 so8.c] 56)) from (Ext.refl w8).alloc _ _)
      refine ⟨trivial, ?_⟩
      refine (callsIn_wide.2 (HRK.out _)).mono ?_
      rintro e w10 ⟨rfl, hx10⟩
      have HX10 := Lib.hid (HX8.out.trans (HX9.out.trans hx10))
      have c10 : w10.cell? ⟨w.heap.size + 1, 0, none⟩ = some (.pointer none) := (HZ1.out.ext HX10.out).cell 0
      have l10 := (HZ1.out.ext HX10.out).lt
      clear hx10 c8 l8 HX9
      gi_wp2_with fail
      refine ⟨trivial, ?_⟩
      refine (callsIn_wide.2 (HKE.out _)).mono ?_
      rintro e w11 ⟨s11, rfl, hb11, -⟩
      have HB11 := Lib.hid (Bw.trans HX10.out.below hb11)
      clear hb11 c10 l10
      gi_wp2_with fail
      refine ⟨trivial, ?_⟩
      refine (callsIn_wide.2 (known08 _)).mono ?_
      rintro e w12 ⟨rfl, hb12⟩
      have hb := Bw.trans HB11.out hb12
      have hz0 := Bw.blk HZ0.out hb
      have c12 := hz0.cell 0
      have f12 := hz0.frozen 0
      have l12 := hz0.lt
      have hd2 := (hb.block D2 hD2l).trans HDK2.out
      have hd1 := (hb.block D (by have := HI2.out.size; omega)).trans ((HI2.out.heap hDl).trans HDK.out)
      have HB := Lib.hid hb
      have HD1 := Lib.hid hd1
      have HD2 := Lib.hid hd2
      have HZ := Lib.hid hz0
      have hDne : D ≠ D2 := by have := HDD.out; have := HDD2.out; omega
      have hsE := HE.out.size
      clear hb hz0 hd1 hd2 hb12
      gi_wp2_with fail
      have hD := HDD.out
      have hD2 := HDD2.out
      have hset : St (fun b => b = w.heap.size) w12 (w12.setCell ⟨w.heap.size, 0, none⟩ (.bool true)) := (St.refl (fun b => b = w.heap.size) w12).set (p := ⟨w.heap.size, 0, none⟩) (.inr rfl) _
      have hd2 := (hset.block D2 (Array.getElem?_eq_some_iff.1 HD2.out).1 (by omega)).trans HD2.out
      have hd1 := (hset.block D (Array.getElem?_eq_some_iff.1 HD1.out).1 (by omega)).trans HD1.out
      have hz1 := HZ.out.set_ 0 (.bool true)
      have hbw := HBW.out.trans ((Bw.ext (Bw.trans HE.out.below HB.out) (Ext.refl _)).mono HBW.out.size)
      generalize w12.setCell ⟨w.heap.size, 0, none⟩ (.bool true) = w13 at *
      have hk2 : St (fun b => b = D2) w13 (w13.putObj D2 (.deferred none)) := St.put hd2 rfl rfl
      have hd1' := (hk2.block D (Array.getElem?_eq_some_iff.1 hd1).1 hDne).trans hd1
      have hk1 : St (fun b => b = D) (w13.putObj D2 (.deferred none)) ((w13.putObj D2 (.deferred none)).putObj D (.deferred none)) := St.put hd1' rfl rfl
      have hz3 := hk1.blk (hk2.blk hz1 (by omega)) (by omega)
      have c13 := hz3.cell 0
      clear hD hD2
      refine ⟨by simp, .inl ⟨_, _, rfl, run_takeDeferred hd2, ?_⟩⟩
      refine ⟨by simp, .inl ⟨_, _, rfl, run_takeDeferred hd1', ?_⟩⟩
      refine ⟨.bool true, ?_, rfl, ?_⟩
      · simp [results, Try.f17, go_sem, c13]
      · have hall : St (fun b => b = w.heap.size ∨ b = D ∨ b = D2) w12 ((w13.putObj D2 (.deferred none)).putObj D (.deferred none)) := ((hset.mono fun i _ hi => .inl hi).trans (hk2.mono fun i _ hi => .inr (.inr hi))).trans (hk1.mono fun i _ hi => .inr (.inl hi))
        exact hbw.trans ⟨hall.os, hall.tape, hall.output, hall.size, fun b hb => hall.block b (by have := hbw.size; omega) (by have := HDD.out; have := HDD2.out; omega)⟩
end Go.Proofs.Ytpapoalgocmlaaa
