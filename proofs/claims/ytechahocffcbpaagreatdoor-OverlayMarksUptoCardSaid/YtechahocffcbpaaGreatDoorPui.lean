/- What the theorem needs of the texts Marks12: no condition of its own. -/
import Derived.Laws.IdiomStrings
import Derived.WalkArith
import Derived.OrdersIn
import Derived.Test.YtechahocffcbpaaGreatDoorPua
import Derived.Test.YtechahocffcbpaaGreatDoorPub
import Derived.Test.YtechahocffcbpaaGreatDoorPuc
import Derived.Test.YtechahocffcbpaaGreatDoorPud
import Derived.Test.YtechahocffcbpaaGreatDoorPue
import Derived.Test.YtechahocffcbpaaGreatDoorPuf
import Derived.Test.YtechahocffcbpaaGreatDoorPug
import Derived.Test.YtechahocffcbpaaGreatDoorPuh
set_option maxRecDepth 100000
set_option maxHeartbeats 1000000
namespace Go.Proofs.YtechahocffcbpaaGreatDoor
open Go.RowKit Go.Maps Go.Shelf
set_option linter.unusedVariables false
set_option linter.unusedSimpArgs false
structure LB12 where
  kd : Int
  k : ByteArray
  v : Val
  sl : Sl
  so : Sl
  n : Int
instance : Inhabited LB12 := ⟨⟨0, ByteArray.empty, default, Sl.none, Sl.none, 0⟩⟩
structure A12C (w : World) (b o : Nat) (x : LB12) : Prop where
  c0 : w.cell? ⟨b, o, none⟩ = some (.int .i64 x.kd)
  c1 : w.cell? ⟨b, o + 1, none⟩ = some (.string x.k)
  cv : VCells w b (o + 2) x.v x.sl x.so
  c8 : w.cell? ⟨b, o + 8, none⟩ = some (.int .i64 x.n)
structure AS12 (w : World) (F : Nat → Prop) (s : Sl) (xs : List LB12) : Prop where
  ex : ∃ b o, SlAt F s xs.length b o ∧ ∀ j x, xs[j]? = some x → A12C w b (o + j * 9) x
  vals : ∀ x ∈ xs, RV w F x.v x.sl x.so ∧ x.k.size ≤ maxLen ∧ (Lit.int .i64 x.kd).wf = true ∧ (Lit.int .i64 x.n).wf = true
  few : ∀ x ∈ xs, cntV x.v ≤ 1100000
theorem AS12.at {w : World} {F : Nat → Prop} {s : Sl} {xs : List LB12} (h : AS12 w F s xs) {i : Nat} {x : LB12} (hx : xs[i]? = some x) :
    ∃ b o, s.a = some ⟨b, o, none⟩ ∧ F b ∧ xs.length ≤ s.c ∧ s.c ≤ maxLen ∧ A12C w b (o + i * 9) x ∧ RV w F x.v x.sl x.so ∧ x.k.size ≤ maxLen ∧ cntV x.v ≤ 1100000 ∧ (Lit.int .i64 x.kd).wf = true ∧ (Lit.int .i64 x.n).wf = true := by
  obtain ⟨b, o, h1, h2⟩ := h.ex
  obtain ⟨e1, e2, e3⟩ := h1.eq (lt_length hx)
  have hm := List.mem_of_getElem? hx
  have hv := h.vals x hm
  exact ⟨b, o, e1, h1.fits (lt_length hx), e2, e3, h2 i x hx, hv.1, hv.2.1, h.few x hm, hv.2.2.1, hv.2.2.2⟩
theorem A12C.agree {w w' : World} {b o : Nat} {x : LB12} (h : A12C w b o x) {F : Nat → Prop} (ha : Agree F w w') (hb : F b) : A12C w' b o x := ⟨(ha.cell hb).trans h.c0, (ha.cell hb).trans h.c1, h.cv.agree ha hb, (ha.cell hb).trans h.c8⟩
theorem AS12.agree {w w' : World} {F : Nat → Prop} {s : Sl} {xs : List LB12} (h : AS12 w F s xs) (ha : Agree F w w') : AS12 w' F s xs := by
  obtain ⟨⟨b, o, h1, h2⟩, h3, h4⟩ := h
  exact ⟨⟨b, o, h1, fun j x hx => (h2 j x hx).agree ha (h1.fits (lt_length hx))⟩, fun x hx => ⟨(h3 x hx).1.agree ha, (h3 x hx).2⟩, h4⟩
theorem Tryz.infoTreeO : (Tryz.prog.info? 25).map (fun i => (i.zero, i.size, i.bytes)) = some (some (.agg #[.pointer none]), 1, 8) := by kernel_rfl
theorem Tryz.infoIntO : (Tryz.prog.info? 3).map (fun i => (i.zero, i.size, i.bytes)) = some (some (.int .i64 0), 1, 8) := by kernel_rfl
theorem up_ltO {H : Nat → Prop} {w w' : World} {O : Nat} {d : OD} (k : Nw w w') (b : Nat) (hb : Up (OvF H w O d) w w' b) : b < w'.heap.size := hb.elim (fun h => Nat.lt_of_lt_of_le h.1 k.size) fun h => h.2
theorem rem_u (tn : Int) {n : Nat} (h0 : n ≠ 0) (hn : n ≤ 1000000) : ∃ k : Nat, k < n ∧ wrap64 ((IntKind.u64.wrap tn).tmod (n : Int)) = (k : Int) := by
  have h1 : 0 ≤ IntKind.u64.wrap tn := by rw [IntKind.wrap_u64]; omega
  rw [Int.tmod_eq_emod_of_nonneg h1]
  have h2 := Int.emod_nonneg (IntKind.u64.wrap tn) (b := (n : Int)) (by omega)
  have h3 := Int.emod_lt_of_pos (IntKind.u64.wrap tn) (b := (n : Int)) (by omega)
  generalize IntKind.u64.wrap tn % (n : Int) = r at *
  refine ⟨r.toNat, by omega, ?_⟩
  unfold wrap64
  omega
theorem marks12 {s : Sl} {xs : List LE} {sa : Sl} {acs : List LB12} {tn : Int} {w : World} (hE : ES w (Lt w.heap.size) s xs) (hA : AS12 w (Lt w.heap.size) sa acs) (hto : (Lit.int .i64 tn).wf = true) (hL : LibQ w) :
    Calls Tryz.prog 8 #[.slice s.a xs.length s.c, .slice sa.a acs.length sa.c, .int .i64 tn] w fun e w' => e = .returned (.bool true) ∧ Nw w w' := by
  obtain ⟨iT, tI, tI0, tI1, tI2⟩ := info_parts Tryz.infoTreeO
  obtain ⟨iN, nI, nI0, nI1, nI2⟩ := info_parts Tryz.infoIntO
  have hkn := fun W (hW : Nw w W) => known12 (hL.lib.nw hW)
  have HKN := Lib.hid hkn
  have HE := Lib.hid hE
  have HA := Lib.hid hA
  have HL := Lib.hid hL
  have h6 := hL.lib.big
  clear hkn hE hA hL
  by_cases hx60 : 60 < xs.length
  · have g1 : decide ((60 : Int) < (xs.length : Int)) = true := decide_eq_true (by omega)
    go_enter Tryz.func8, Tryz.ntmps8
    go_wp2_with fail
    refine (HKN.out _ (Sb.refl _ w)).mono ?_
    rintro e w1 ⟨rfl, hn⟩
    have HN := Lib.hid hn
    clear hn
    go_wp2_with fail
    go_ret
    exact ⟨rfl, HN.out⟩
  have g1 : decide ((60 : Int) < (xs.length : Int)) = false := decide_eq_false (by omega)
  by_cases ha60 : 60 < acs.length
  · have g2 : decide ((60 : Int) < (acs.length : Int)) = true := decide_eq_true (by omega)
    go_enter Tryz.func8, Tryz.ntmps8
    go_wp2_with fail
    refine (HKN.out _ (Sb.refl _ w)).mono ?_
    rintro e w1 ⟨rfl, hn⟩
    have HN := Lib.hid hn
    clear hn
    go_wp2_with fail
    go_ret
    exact ⟨rfl, HN.out⟩
  have g2 : decide ((60 : Int) < (acs.length : Int)) = false := decide_eq_false (by omega)
  go_enter Tryz.func8, Tryz.ntmps8
  go_wp2_with fail
  refine (build_any HE.out (by omega)).mono ?_
  rintro e w1 ⟨T, rfl, hbr, hT, hx1⟩
  obtain ⟨okT, heT⟩ := hbr.both
  have hTl : (entsT T).length ≤ 60 := by
    rw [heT]; have := putAll_len (xs.map LE.ent) []; simp only [List.length_nil, List.length_map] at this; omega
  have hbg := begin_ov (H := fun _ => False) hT okT (fun b hb => ⟨hb.2, id⟩) (fun b h => h.elim)
  obtain ⟨p, hp⟩ := rootV_ptr T
  rw [treeV, hp] at hbg
  rw [treeV, hp]
  have HX1 := Lib.hid hx1
  have HBG := Lib.hid hbg
  clear hx1 hbg hbr hT hp heT
  go_wp2_with fail
  refine HBG.out.mono ?_
  rintro e w2 ⟨O, rfl, hO, h0, hx2⟩
  have hn2 : Nw w w2 := Nw.of (HX1.out.trans hx2)
  have hw01 := HX1.out.size
  have hw12 := hx2.size
  have HN2 := Lib.hid hn2
  have H0 := Lib.hid h0
  clear hx2 hn2 h0 HBG
  go_wp2_with fail
  generalize hW3 : w2.alloc (.cells #[] _) = w3
  have hx3 : Ext w2 w3 := by rw [← hW3]; exact (Ext.refl w2).alloc _ _
  have hown0 : w3.ownsRow w2.heap.size 3 1 (.slice (some ⟨w2.heap.size, 0, none⟩) 0 0) 0 [] := by rw [← hW3]; exact World.ownsRow_made w2 #[] 0 (Nat.le_refl _) (by decide) rfl
  have ho0 : ∀ b, OvB O (od0 T) b → w.heap.size ≤ b := fun b hb => by
    rcases hb with rfl | hb | hb
    · omega
    · cases hb
    · cases hb
  have hmk0 : MkI w w2.heap.size O T Sl.none ⟨some ⟨w2.heap.size, 0, none⟩, 0⟩ (od0 T) [] [] w3 :=
    ⟨H0.out.turn (H' := RwH Sl.none ⟨some ⟨w2.heap.size, 0, none⟩, 0⟩) (hx3.sb fun _ => False) (fun b e => e.elim) (fun b hb => by
      rcases hb with hb | hb
      · cases hb
      · right; have : w2.heap.size = b := by simpa [Sl.row] using hb
        omega), rfl, World.ownsRow_nil _ _ _ _, hown0, fun t ht => (by cases ht), ho0, HN2.out.trans (Nw.of hx3), hx3.size⟩
  have HMK0 := Lib.hid hmk0
  clear hW3 hx3 hown0 ho0 hmk0 H0
  go_loopw [8, 9, 10] (fun v8 v9 v10 wr => ∃ (i : Nat) (s1 s2 : Sl) (d : OD) (ts : List TM), v8 = .slice s1.a i s1.c ∧ v9 = .slice s2.a i s2.c ∧ v10 = .int .i64 (i : Int) ∧ i ≤ acs.length ∧ Hid (ts.length = i) ∧ d.us.length ≤ i ∧ Hid (MkI w w2.heap.size O T s1 s2 d ts (ts.map TM.m) wr)) (fun _ _ v _ => acs.length - (intOf v).toNat)
  case atStart => exact ⟨0, Sl.none, _, od0 T, [], rfl, rfl, rfl, Nat.zero_le _, Lib.hid rfl, Nat.le_refl _, HMK0⟩
  case round =>
    obtain ⟨i, s1, s2, d, ts, rfl, rfl, rfl, hi, HLT, hus, HM⟩ := hrel
    have hwr := HM.out.nw.size
    by_cases hlt : i < acs.length
    · have l1 : (i : Int) < (acs.length : Int) := by omega
      have l1' : decide ((i : Int) < (acs.length : Int)) = true := decide_eq_true l1
      have l0 : (0 : Int) ≤ (i : Int) := by omega
      obtain ⟨x, hxi⟩ : ∃ x, acs[i]? = some x := ⟨_, List.getElem?_eq_getElem hlt⟩
      obtain ⟨b, o, hsa, lb, hcc, hcm, hcell, hrv, hkm, hcv, -, -⟩ := HA.out.at hxi
      have hlb : b < w.heap.size := lb
      obtain ⟨saa, sac⟩ := sa
      dsimp only at hsa hcc hcm
      subst hsa
      have HC := Lib.hid hcell
      have HRV := Lib.hid hrv
      have HKM := Lib.hid hkm
      have HCV := Lib.hid hcv
      have hcm' := mk_commit HM.out (by omega) (by omega)
      have HCM := Lib.hid hcm'
      clear hcell hrv hkm hcv hxi hcm'
      go_wp2_with fail
      refine HCM.out.mono ?_
      rintro e w4 ⟨T', rfl, htm, hn4⟩
      obtain ⟨p', hp'⟩ := rootV_ptr T'
      rw [treeV, hp']
      have HTM := Lib.hid htm
      have HP' := Lib.hid hp'
      have HM4 := Lib.hid (HM.out.go hn4)
      have hz4 := hn4.size
      have hx5 : Ext w4 (w4.alloc (.cells #[.pointer p'] 25)) := (Ext.refl w4).alloc _ _
      have HM5 := Lib.hid (HM4.out.go (Nw.of hx5))
      have HTM5 := Lib.hid (HTM.out.go (Nw.of hx5))
      have HBN := Lib.hid (Blk.new w4 25 #[.pointer p'])
      have hz5 : (w4.alloc (.cells #[.pointer p'] 25)).heap.size = w4.heap.size + 1 := by simp
      have HOX := Lib.hid (show (w4.alloc (.cells #[.pointer p'] 25)).ownsRow w2.heap.size 25 1 (.slice s1.a i s1.c) i (ts.map fun t => rootV t.T) by have := HM5.out.own1; rwa [HLT.out] at this)
      have h63 : i + 1 ≤ maxLen := by unfold maxLen; omega
      have hby : (i + 1) * 8 ≤ 140737488355328 := by omega
      have hbase : w2.heap.size ≤ (w4.alloc (.cells #[.pointer p'] 25)).heap.size := by have := HM.out.base; omega
      clear htm hp' hn4 hx5 hz5
      go_wp2_with (at_builtin; refine wpList_append_x _ rfl (.tmp 33) (.tmp 36) 76 rfl w2.heap.size 25 iT _ 1 8 Tryz.underlying76 tI tI0 tI1 tI2 rfl (by decide) s1 i (ts.map fun t => rootV t.T) rfl HOX.out (fun b => b = w4.heap.size) ⟨some ⟨w4.heap.size, 0, none⟩, 1⟩ 1 [.pointer p'] rfl (Rd.block HBN.out (by decide) rfl) (by simp [Value.oneCell']) h63 hby hbase ?_; intro s1' w6 hown6 hwr6 hs6; have HO6 := Lib.hid hown6; have HW6 := Lib.hid hwr6; have HS6 := Lib.hid hs6; clear hown6 hwr6 hs6)
      have hmk6 := HM5.out.tree (by omega) HTM5.out (by have := HO6.out; rw [HP'.out, HLT.out]; exact this) HW6.out HS6.out
      have hmark := mark_ov hmk6.ov
      have HM6 := Lib.hid hmk6
      have HMARK := Lib.hid hmark
      clear hmk6 hmark h63 hby hbase
      refine HMARK.out.mono ?_
      rintro e w7 ⟨rfl, hx7⟩
      have hx8 : Ext w7 (w7.alloc (.cells #[.int .i64 (d.us.length : Int)] 3)) := (Ext.refl w7).alloc _ _
      have HM8 := Lib.hid (HM6.out.go (Nw.of (hx7.trans hx8)))
      have HBM := Lib.hid (Blk.new w7 3 #[.int .i64 (d.us.length : Int)])
      have HOY := Lib.hid (show (w7.alloc (.cells #[.int .i64 (d.us.length : Int)] 3)).ownsRow w2.heap.size 3 1 (.slice s2.a i s2.c) i ((ts.map TM.m).map fun (m : Nat) => Value.int .i64 (m : Int)) by have := HM8.out.own2; rwa [List.length_map, HLT.out] at this)
      have h63 : i + 1 ≤ maxLen := by unfold maxLen; omega
      have hby : (i + 1) * 8 ≤ 140737488355328 := by omega
      have hbase : w2.heap.size ≤ (w7.alloc (.cells #[.int .i64 (d.us.length : Int)] 3)).heap.size := HM8.out.base
      clear hx7 hx8
      go_upto_region 13 with (at_builtin; refine wpList_append_x _ rfl (.tmp 38) (.tmp 41) 77 rfl w2.heap.size 3 iN _ 1 8 Tryz.underlying77 nI nI0 nI1 nI2 rfl (by decide) s2 i ((ts.map TM.m).map fun (m : Nat) => Value.int .i64 (m : Int)) rfl HOY.out (fun b => b = w7.heap.size) ⟨some ⟨w7.heap.size, 0, none⟩, 1⟩ 1 [.int .i64 (d.us.length : Int)] rfl (Rd.block HBM.out (by decide) rfl) (by simp [Value.oneCell']) h63 hby hbase ?_; intro s2' w9 hown9 hwr9 hs9; have HO9 := Lib.hid hown9; have HW9 := Lib.hid hwr9; have HS9 := Lib.hid hs9; have hag9 : Agree (Lt w.heap.size) w w9 := Nw.agree (HM8.out.nw.comp (HW9.out.sb) fun i hi e => by have := (HM8.out.rows_lt (.inr e)).1; omega) fun _ h => h; have a0 := (hag9.cell (o := o + i * 9) hlb).trans HC.out.c0; have lb9 : b < w9.heap.size := Nat.lt_of_lt_of_le hlb (Nat.le_trans HM8.out.nw.size hwr9.grown.size); clear hown9 hwr9 hs9 hag9)
      have hmk9 := HM8.out.mark (by omega) (m := d.us.length) (by have := HO9.out; rw [List.length_map, HLT.out]; exact this) HW9.out HS9.out
      have hlt9 : (ts ++ [(⟨T', d.us.length, d.C⟩ : TM)]).length = i + 1 := by rw [List.length_append, HLT.out]; rfl
      have hmp9 : ts.map TM.m ++ [d.us.length] = (ts ++ [(⟨T', d.us.length, d.C⟩ : TM)]).map TM.m := by rw [List.map_append]; rfl
      rw [hmp9] at hmk9
      obtain ⟨ts', hts'⟩ : ∃ l, l = ts ++ [(⟨T', d.us.length, d.C⟩ : TM)] := ⟨_, rfl⟩
      rw [← hts'] at hmk9 hlt9
      have HM9 := Lib.hid hmk9
      have HLT9 := Lib.hid hlt9
      have hnb : ∀ b, OvB O d b → w.heap.size ≤ b := hmk9.new
      have HNB := Lib.hid hnb
      have hAC : ∀ W, Nw w W → A12C W b (o + i * 9) x := fun W hW => HC.out.agree (Nw.agree hW fun _ h => h) hlb
      have HAC := Lib.hid hAC
      have HRVW := Lib.hid (fun W (hW : Nw w W) => ((HRV.out.agree (Nw.agree hW fun _ h => h)).mono fun i hi => Nat.lt_of_lt_of_le hi hW.size : RV W (Lt W.heap.size) x.v x.sl x.so))
      clear hmk9 hlt9 hmp9 hts' hnb hAC HM8 HM6 HM5 HM4 HTM HTM5 HBN HOX HBM HOY HO6 HW6 HS6 HO9 HW9 HS9 h63 hby hbase HMARK
      have lsz : w2.heap.size ≤ w9.heap.size := HM9.out.base
      by_cases hk1 : x.kd = 1
      · have e1 : (x.kd == 1) = true := by simp [hk1]
        have e2 : (x.kd == 2) = false := by simp [hk1]
        have hSC : ∀ W, Sb (OvB O d) w9 W → A12C W b (o + i * 9) x := fun W hW => HAC.out W (HM9.out.nw.comp hW fun i hi e => by have := HNB.out i e; omega)
        have HSS := Lib.hid (show ∀ W, Sb (OvB O d) w9 W → W.cell? ⟨b, o + i * 9 + 1, none⟩ = some (.string x.k) ∧ W.cell? ⟨b, o + i * 9 + 2, none⟩ = some (.int .i64 x.v.kind) ∧ W.cell? ⟨b, o + i * 9 + 2 + 1, none⟩ = some (.bool x.v.b) ∧ W.cell? ⟨b, o + i * 9 + 2 + 2, none⟩ = some (.int .i64 x.v.i) ∧ W.cell? ⟨b, o + i * 9 + 2 + 3, none⟩ = some (.string x.v.t) ∧ W.cell? ⟨b, o + i * 9 + 2 + 4, none⟩ = some (.slice x.sl.a x.v.l.length x.sl.c) ∧ W.cell? ⟨b, o + i * 9 + 2 + 5, none⟩ = some (.slice x.so.a x.v.ok.length x.so.c) from
          fun W hW => ⟨(hSC W hW).c1, (hSC W hW).cv.c0, (hSC W hW).cv.c1, (hSC W hW).cv.c2, (hSC W hW).cv.c3, (hSC W hW).cv.c4, (hSC W hW).cv.c5⟩)
        have hp9 := mk_put (HM9.out.go (Nw.of ((Ext.refl w9).drew))) (by omega) HKM.out (HRVW.out _ (HM9.out.nw.trans (Nw.of ((Ext.refl w9).drew)))) HCV.out (HL.out.nw (HM9.out.nw.trans (Nw.of ((Ext.refl w9).drew))))
        have HPUT := Lib.hid hp9
        clear hk1 hSC hp9
        go_wp2_with fail
        refine wp_region_held_drew (S := (fun w' => Sb (OvB O d) w9 w')) (by kernel_rfl) (((Nw.of ((Ext.refl w9).drew)).any _)) (fun hHeld => ?_)
        refine heldT 0 (some 49) HSS hHeld ?_
        refine heldT 1 (some 50) HSS hHeld ?_
        refine heldT 2 (some 51) HSS hHeld ?_
        refine heldT 3 (some 52) HSS hHeld ?_
        refine heldT 4 (some 53) HSS hHeld ?_
        refine heldT 5 (some 54) HSS hHeld ?_
        refine heldT 6 (some 55) HSS hHeld ?_
        refine heldT 7 (some 56) HSS hHeld ?_
        refine heldT 8 (some 57) HSS hHeld ?_
        refine heldT 9 (some 58) HSS hHeld ?_
        refine heldT 10 (some 59) HSS hHeld ?_
        refine held_call (i := 11) (by kernel_rfl) rfl (by rfl) (fun K hK => ?_)
        go_simp
        (refine HPUT.out.mono ?_; rintro e w10 ⟨c, d', rfl, hmk', hus', hs10⟩; have HM10 := Lib.hid hmk'; clear hmk')
        refine hK.out _ _ (hHeld.trans hs10) (fun hHeld => ?_)
        clear hK K
        try simp only [Act.put, List.setIfInBounds_toArray, List.set_cons_zero, List.set_cons_succ]
        refine wpAnyH_done (by kernel_rfl) ?_ _
        have a0' := (HAC.out _ HM10.out.nw).c0
        have lb10 : b < w10.heap.size := Nat.lt_of_lt_of_le hlb HM10.out.nw.size
        clear hHeld hs10
        go_wp2_with fail
        go_roundw
        case rel => exact ⟨i + 1, s1', s2', d', ts', by simp, by simp, by go_num, hlt, HLT9, by omega, HM10⟩
        case measure => simp [intOf]; omega
      have e1 : (x.kd == 1) = false := by simpa using hk1
      by_cases hk2 : x.kd = 2
      · have e2 : (x.kd == 2) = true := by simp [hk2]
        have a1 := (HAC.out _ HM9.out.nw).c1
        have HDEL := Lib.hid (mk_del HM9.out (by omega) (by omega) HKM.out)
        clear hk1 hk2
        go_wp2_with fail
        refine HDEL.out.mono ?_
        rintro e w10 ⟨c, d', rfl, hmk', hus', -⟩
        have HM10 := Lib.hid hmk'
        clear hmk'
        go_wp2_with fail
        go_roundw
        case rel => exact ⟨i + 1, s1', s2', d', ts', by simp, by simp, by go_num, hlt, HLT9, by omega, HM10⟩
        case measure => simp [intOf]; omega
      · have e2 : (x.kd == 2) = false := by simpa using hk2
        clear hk1 hk2
        go_wp2_with fail
        go_roundw
        case rel => exact ⟨i + 1, s1', s2', d, ts', by simp, by simp, by go_num, hlt, HLT9, by omega, HM9⟩
        case measure => simp [intOf]; omega
    · obtain rfl : i = acs.length := by omega
      have l1 : decide ((acs.length : Int) < (acs.length : Int)) = false := decide_eq_false (by omega)
      by_cases hz : acs.length = 0
      · have e0 : ((acs.length : Int) == 0) = true := by simp [hz]
        have HKE := Lib.hid (HKN.out _ HM.out.nw)
        clear hz
        go_wp2_with fail
        refine HKE.out.mono ?_
        rintro e w4 ⟨rfl, hn4⟩
        have HN4 := Lib.hid (HM.out.nw.trans hn4)
        clear hn4
        go_wp2_with fail
        go_ret
        exact ⟨rfl, HN4.out⟩
      · have e0 : ((acs.length : Int) == 0) = false := by simp [hz]
        obtain ⟨k, hk, hkw⟩ := rem_u tn hz (by omega)
        obtain ⟨tk, htk⟩ : ∃ tk, ts[k]? = some tk := ⟨_, List.getElem?_eq_getElem (by rw [HLT.out]; exact hk)⟩
        have ho1 := HM.out.own1
        have ho2 := HM.out.own2
        rw [List.length_map] at ho2
        rw [HLT.out] at ho1 ho2
        obtain ⟨g1, hg1, hr1, -, lg1, hc1, hm1, k1⟩ := own_atO ho1 (i := k) (v := rootV tk.T) (by rw [List.getElem?_map, htk]; rfl)
        obtain ⟨g2, hg2, hr2, -, lg2, hc2, hm2, k2⟩ := own_atO ho2 (i := k) (v := .int .i64 (tk.m : Int)) (by rw [List.getElem?_map, List.getElem?_map, htk]; rfl)
        obtain ⟨s1a, s1c⟩ := s1
        obtain ⟨s2a, s2c⟩ := s2
        dsimp only at hg1 hg2 hc1 hc2 hm1 hm2
        subst hg1 hg2
        obtain ⟨pk, hpk⟩ := rootV_ptr tk.T
        rw [hpk] at k1
        have hmem : tk ∈ ts := List.mem_of_getElem? htk
        have hmle := (HM.out.items tk hmem).le
        have HBK := Lib.hid (mk_back (HM.out.go (Nw.of ((Ext.refl wr).drew))) (by omega) hmem)
        have HSS := Lib.hid (show ∀ W, Sb (OvB O d) wr W → W.cell? ⟨g2, k, none⟩ = some (.int .i64 (tk.m : Int)) ∧ W.cell? ⟨g1, k, none⟩ = some (.pointer pk) from
          fun W hW => ⟨(hW.cell lg2 fun e => HM.out.ov.out _ e (.inr hr2)).trans k2, (hW.cell lg1 fun e => HM.out.ov.out _ e (.inl hr1)).trans k1⟩)
        have HKW := Lib.hid hkw
        have HPK := Lib.hid hpk
        have q0 : (0 : Int) ≤ (k : Int) := by omega
        have q1 : (k : Int) < (acs.length : Int) := by omega
        clear hz hkw htk ho1 ho2 hr1 hr2 k1 k2 hpk hmem
        go_wp2_with fail
        rw [HKW.out]
        refine wp_region_held_drew (S := (fun w' => Sb (OvB O d) wr w')) (by kernel_rfl) (((Nw.of ((Ext.refl wr).drew)).any _)) (fun hHeld => ?_)
        refine heldT 0 (some 85) HSS hHeld ?_
        refine heldT 1 (some 86) HSS hHeld ?_
        refine heldT 2 (some 87) HSS hHeld ?_
        refine heldT 3 (some 88) HSS hHeld ?_
        refine heldT 4 (some 89) HSS hHeld ?_
        refine held_call (i := 5) (by kernel_rfl) rfl (by rfl) (fun K hK => ?_)
        go_simp
        (refine HBK.out.mono ?_; rintro e w5 ⟨rfl, d2, hb5⟩; have hmk := mark_ov hb5.ov; rw [hb5.us] at hmk; have HMK := Lib.hid hmk; have HB5 := Lib.hid hb5; clear hmk)
        refine hK.out _ _ (hHeld.trans hb5.sb) (fun hHeld => ?_)
        clear hK K
        try simp only [Act.put, List.setIfInBounds_toArray, List.set_cons_zero, List.set_cons_succ]
        refine heldT 6 (some 91) HSS hHeld ?_
        refine heldT 7 (some 92) HSS hHeld ?_
        refine heldT 8 (some 93) HSS hHeld ?_
        refine heldT 10 (some 95) HSS hHeld ?_
        refine heldT 11 (some 96) HSS hHeld ?_
        refine heldT 12 (some 97) HSS hHeld ?_
        refine heldT 13 (some 98) HSS hHeld ?_
        refine held_call (i := 9) (by kernel_rfl) rfl (by rfl) (fun K hK => ?_)
        go_simp
        (refine HMK.out.mono ?_; rintro e w6 ⟨rfl, hx6⟩; have hcm := commit_ov (HB5.out.ov.ext hx6) (by have h1 := HB5.out.ov.few; have h2 := HB5.out.us; rw [HB5.out.below]; omega); have HCM := Lib.hid hcm; have HX6 := Lib.hid hx6; clear hcm)
        refine hK.out _ _ (hHeld.trans (hx6.sb _)) (fun hHeld => ?_)
        clear hK K
        try simp only [Act.put, List.setIfInBounds_toArray, List.set_cons_zero, List.set_cons_succ]
        refine heldT 14 (some 99) HSS hHeld ?_
        refine heldT 15 (some 100) HSS hHeld ?_
        refine heldT 16 (some 101) HSS hHeld ?_
        refine heldT 17 (some 102) HSS hHeld ?_
        refine heldT 19 (some 104) HSS hHeld ?_
        refine heldT 20 (some 105) HSS hHeld ?_
        refine heldT 21 (some 106) HSS hHeld ?_
        refine heldT 22 (some 107) HSS hHeld ?_
        refine held_call (i := 18) (by kernel_rfl) rfl (by rfl) (fun K hK => ?_)
        go_simp
        (refine HCM.out.mono ?_; rintro e w7 ⟨T7, rfl, hok7, hT7, he7, hn7, -⟩; obtain ⟨p7, hp7⟩ := rootV_ptr T7; have hn57 := (Nw.of HX6.out).trans hn7; have hsm := mb_same HB5.out (by omega) (by omega) hok7 hT7 (up_ltO hn7) he7 hn57; rw [treeV, treeV, hp7, HPK.out] at hsm; rw [treeV, hp7]; have HSM := Lib.hid hsm; have HN7 := Lib.hid (HB5.out.nw.trans hn57); clear hsm hok7 hT7 he7 hp7 hn57)
        refine hK.out _ _ (hHeld.trans (hn7.any _)) (fun hHeld => ?_)
        clear hK K
        try simp only [Act.put, List.setIfInBounds_toArray, List.set_cons_zero, List.set_cons_succ]
        refine held_call (i := 23) (by kernel_rfl) rfl (by rfl) (fun K hK => ?_)
        go_simp
        (refine HSM.out.mono ?_; rintro e w8 ⟨rfl, hx8⟩; have HKE := Lib.hid (HKN.out _ (HN7.out.trans (Nw.of hx8))); have HN8 := Lib.hid (HN7.out.trans (Nw.of hx8)))
        refine hK.out _ _ (hHeld.trans (hx8.sb _)) (fun hHeld => ?_)
        clear hK K
        try simp only [Act.put, List.setIfInBounds_toArray, List.set_cons_zero, List.set_cons_succ]
        refine heldT 24 (some 109) HSS hHeld ?_
        refine heldT 25 (some 110) HSS hHeld ?_
        refine held_call (i := 26) (by kernel_rfl) rfl (by rfl) (fun K hK => ?_)
        go_simp
        (refine HKE.out.mono ?_; rintro e w9 ⟨rfl, hn9⟩; have HN9 := Lib.hid (HN8.out.trans hn9))
        refine hK.out _ _ (hHeld.trans (hn9.any _)) (fun hHeld => ?_)
        clear hK K
        try simp only [Act.put, List.setIfInBounds_toArray, List.set_cons_zero, List.set_cons_succ]
        refine heldT 27 (some 112) HSS hHeld ?_
        refine heldT 28 (some 6) HSS hHeld ?_
        refine wpAnyH_done (by kernel_rfl) ?_ _
        go_wp2_with fail
        go_ret
        exact ⟨rfl, HN9.out⟩
end Go.Proofs.YtechahocffcbpaaGreatDoor
