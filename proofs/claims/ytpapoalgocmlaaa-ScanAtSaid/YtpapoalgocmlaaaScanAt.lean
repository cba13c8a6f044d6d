/- ScanAt: each entry by its place, and none elsewhere. -/
import Derived.Test.YtpapoalgocmlaaaLaw8B
namespace Go.Proofs.Ytpapoalgocmlaaa
open Go.RowKit
set_option linter.unusedVariables false
set_option linter.unusedSimpArgs false

set_option maxRecDepth 100000 in
theorem scanat_not {w : World} {s : Sl} {n : Nat} (a : Int) (h : 400 < n) : Calls Try.prog 15 #[.slice s.a n s.c, .int .i64 a] w fun e w' => e = .returned (.bool true) ∧ Below w.heap.size w w' := by
  have hm := made_not (w := w) (s := s) h
  have HM := Lib.hid hm
  clear hm
  go_enter Try.func15, Try.ntmps15
  go_wp2_with fail
  refine HM.out.mono ?_
  rintro e w1 ⟨rfl, hx1⟩
  have hx2 := hx1.alloc #[.pointer none] 30
  have HX2 := Lib.hid hx2
  clear hx1 hx2
  go_wp2_with fail
  refine (known08 _).mono ?_
  rintro e w2 ⟨rfl, hb2⟩
  have HB2 := Lib.hid hb2
  clear hb2
  go_wp2_with fail
  go_ret
  exact ⟨rfl, HX2.out.below.trans (HB2.out.mono HX2.out.size)⟩
set_option maxRecDepth 100000 in
set_option maxHeartbeats 8000000 in
theorem scanat_yes {w : World} {s : Sl} {xs : List LE} (a : Int) (ha0 : -9223372036854775808 ≤ a) (ha1 : a ≤ 9223372036854775807) (h : ES w (Lt w.heap.size) s xs) (hl : xs.length ≤ 400) : Calls Try.prog 15 #[.slice s.a xs.length s.c, .int .i64 a] w fun e w' => e = .returned (.bool true) ∧ Below w.heap.size w w' := by
  have hm := made_any h hl
  have HM := Lib.hid hm
  clear hm h hl
  go_enter Try.func15, Try.ntmps15
  go_wp2_with fail
  refine HM.out.mono ?_
  rintro e w1 ⟨T, sm, ms, rfl, hmade, hx1⟩
  obtain ⟨p, hp⟩ := rootV_ptr T
  dsimp only [treeV]
  rw [hp]
  obtain ⟨es, hes⟩ : ∃ es, putAll [] (xs.map LE.ent) = es := ⟨_, rfl⟩
  rw [hes] at hmade
  have hb2 := Blk.new w1 30 #[.pointer p]
  have hx2 : Ext w1 (w1.alloc (.cells #[.pointer p] 30)) := (Ext.refl w1).alloc _ _
  have hL : LawS (w1.alloc (.cells #[.pointer p] 30)) es T sm ms p w1.heap.size := ⟨hmade.ext hx2, hb2, hp⟩
  have HX2 := Lib.hid (hx1.trans hx2)
  have HL := Lib.hid hL
  have HLEN := Lib.hid hmade.len
  have hfew := hmade.few
  clear HM hmade hx1 hes hb2 hx2 hL hp
  go_wp2_with fail
  generalize w1.alloc (.cells #[.pointer p] 30) = W0 at *
  generalize w1.heap.size = Bt at *
  go_loopw [8] (fun i wr => ∃ j : Nat, j ≤ ms.length ∧ i = .int .i64 j ∧ Ext W0 wr) (fun i _ => ms.length - (intOf i).toNat)
  case atStart => exact ⟨0, Nat.zero_le _, rfl, Ext.refl _⟩
  case round =>
    obtain ⟨j, hj, rfl, hX⟩ := hrel
    have hms : ms.length ≤ 400 := by have := HLEN.out; omega
    have HX := Lib.hid hX
    have HME := Lib.hid (HL.out.made.ext hX)
    have hbox := HL.out.box.ext hX
    have c0 : wr.cell? ⟨Bt, 0, none⟩ = some (.pointer p) := hbox.cell 0
    have hBl := hbox.lt
    by_cases hlt : j < ms.length
    · have hjl : (j : Int) < (ms.length : Int) := by omega
      obtain ⟨x, hxj⟩ : ∃ x, ms[j]? = some x := ⟨_, List.getElem?_eq_getElem hlt⟩
      have hej : es[j]? = some x.ent := by rw [← HME.out.ms_, List.getElem?_map, hxj]; rfl
      have hat := treeAtI_any (i := (j : Int)) HME.out.at_ HME.out.ok (by rw [HME.out.ents]; omega) (by omega) (by omega)
      have hgi : getI es (j : Int) = some x.ent := by unfold getI; rw [if_neg (by omega), Int.toNat_natCast, hej]
      rw [treeV, HL.out.root, HME.out.ents, hgi] at hat
      have HAT := Lib.hid hat
      have HXJ := Lib.hid hxj
      have HEJ := Lib.hid hej
      clear hat hX hxj hej hgi hbox
      go_wp2_with fail
      refine HAT.out.mono ?_
      rintro e w3 ⟨sl, so, rfl, hx3, hrv⟩
      have HX3 := Lib.hid hx3
      have HRV := Lib.hid hrv
      clear hx3 hrv HAT c0
      go_upto_region 8 with (fail)
      have hx4 : Ext w3 (w3.alloc (.cells #[.string x.k, .int .i64 x.v.kind, .bool x.v.b, .int .i64 x.v.i, .string x.v.t, .slice sl.a x.v.l.length sl.c, .slice so.a x.v.ok.length so.c] 56)) := (Ext.refl w3).alloc _ _
      have hb4 := Blk.new w3 56 #[.string x.k, .int .i64 x.v.kind, .bool x.v.b, .int .i64 x.v.i, .string x.v.t, .slice sl.a x.v.l.length sl.c, .slice so.a x.v.ok.length so.c]
      generalize hW4 : World.alloc w3 _ = W4
      have hx4 : Ext w3 W4 := by rw [← hW4]; exact hx4
      have hb4 : Blk W4 w3.heap.size 56 #[.string x.k, .int .i64 x.v.kind, .bool x.v.b, .int .i64 x.v.i, .string x.v.t, .slice sl.a x.v.l.length sl.c, .slice so.a x.v.ok.length so.c] := by rw [← hW4]; exact hb4
      have hX4 := (HX.out.trans HX3.out).trans hx4
      have HM4 := Lib.hid (HL.out.made.ext hX4)
      obtain ⟨b, o, ha, hbl, hlc, hcm, k0, hv, -, hks⟩ := HM4.out.list.at HXJ.out
      have hrv4 : RV W4 (Lt W4.heap.size) x.v sl so := (HRV.out.agree (hx4.agree fun b hb => hb.2)).mono fun b hb => Nat.lt_of_lt_of_le hb.2 hx4.size
      obtain ⟨sa, sc⟩ := sm
      dsimp only at ha hlc hcm
      subst ha
      have hbx4 := HL.out.box.ext hX4
      have HSS := Lib.hid (show ∀ W, Ext W4 W → W.cell? ⟨Bt, 0, none⟩ = some (.pointer p) ∧ W.cell? ⟨b, o + j * 7, none⟩ = some (.string x.k) ∧ W.cell? ⟨w3.heap.size, 0, none⟩ = some (.string x.k) ∧ W.cell? ⟨w3.heap.size, 1, none⟩ = some (.int .i64 x.v.kind) ∧ W.cell? ⟨w3.heap.size, 2, none⟩ = some (.bool x.v.b) ∧ W.cell? ⟨w3.heap.size, 3, none⟩ = some (.int .i64 x.v.i) ∧ W.cell? ⟨w3.heap.size, 4, none⟩ = some (.string x.v.t) ∧ W.cell? ⟨w3.heap.size, 5, none⟩ = some (.slice sl.a x.v.l.length sl.c) ∧ W.cell? ⟨w3.heap.size, 6, none⟩ = some (.slice so.a x.v.ok.length so.c) from fun W hW =>
        ⟨(hbx4.ext hW).cell 0, (hW.cell hbl).trans k0, (hb4.ext hW).cell 0, (hb4.ext hW).cell 1, (hb4.ext hW).cell 2, (hb4.ext hW).cell 3, (hb4.ext hW).cell 4, (hb4.ext hW).cell 5, (hb4.ext hW).cell 6⟩)
      have hsame : ∀ W, Ext W4 W → Calls Try.prog 54 #[.slice (some ⟨W.heap.size, 0, none⟩) 1 1, .slice (some ⟨b, o + j * 7, none⟩) 1 (sc - j)] (W.alloc (.cells #[.string x.k, .int .i64 x.v.kind, .bool x.v.b, .int .i64 x.v.i, .string x.v.t, .slice sl.a x.v.l.length sl.c, .slice so.a x.v.ok.length so.c] 56)) fun e w' => e = .returned (.bool true) ∧ Ext W w' := fun W hW => by
        have hxa : Ext W (W.alloc (.cells #[.string x.k, .int .i64 x.v.kind, .bool x.v.b, .int .i64 x.v.i, .string x.v.t, .slice sl.a x.v.l.length sl.c, .slice so.a x.v.ok.length so.c] 56)) := (Ext.refl W).alloc _ _
        have hb := Blk.new W 56 (LE.cells ⟨x.k, x.v, sl, so⟩).toArray
        have h1 := ES.single (F := Lt (W.alloc (.cells (LE.cells ⟨x.k, x.v, sl, so⟩).toArray 56)).heap.size) hb hb.lt ((hrv4.agree ((hW.trans hxa).agree fun _ h => h)).mono fun i hi => Nat.lt_of_lt_of_le hi (hW.trans hxa).size) hks
        have h2 := ES.part (HM4.out.list.ext (hW.trans hxa)) (i := j) (n := 1) (by omega) (by decide)
        have hd : (ms.drop j).take 1 = [x] := by
          obtain ⟨e1, e2⟩ := List.getElem?_eq_some_iff.1 HXJ.out
          rw [List.drop_eq_getElem_cons e1, e2]; rfl
        rw [hd] at h2
        refine (sameEnt_any h1 h2).mono fun e w' ⟨e1, e2⟩ => ⟨by rw [e1]; show Ending.returned (.bool (sameE [x.ent] [x.ent])) = _; rw [sameE_refl], hxa.trans e2⟩
      have hrank := fun W (hW : Ext W4 W) => treeRank_any (HM4.out.at_.ext hW) HM4.out.ok (by rw [HM4.out.ents]; omega) x.k
      rw [treeV, HL.out.root, HM4.out.ents, show posE es x.k = j from posE_nth (HM4.out.sorted) (e := x.ent) HEJ.out] at hrank
      have HSAME := Lib.hid hsame
      have HRANK := Lib.hid hrank
      have HX4 := Lib.hid hX4
      have hjc : j < sc := by omega
      have hwj : IntKind.i64.wrap ((j : Int) + 1) = (j : Int) + 1 := by rw [IntKind.wrap_i64]; omega
      have hsc0 : (0 : Int) ≤ (j : Int) + 1 := by omega
      have hsc1 : (j : Int) + 1 ≤ (sc : Int) := by omega
      have htn : ((j : Int) + 1).toNat = j + 1 := by omega
      have hjn : ¬ sc = j := by omega
      have hj11 : j + 1 - j = 1 := by omega
      clear hW4 hx4 hb4 hX4 k0 hv hrv4 hbx4 hsame hrank
      refine wp_region_held_drew (S := (fun w' => Ext W4 w')) (by kernel_rfl) (((Ext.refl W4).drew)) (fun hHeld => ?_)
      refine held_on (i := 0) (d := (some 34)) (v := ?_) rfl rfl (by kernel_rfl) (by kernel_rfl) (by kernel_rfl) (fun _ _ _ h => h) (by rfl) hHeld ?_ ?_
      rotate_left
      focus (intro w hSw; have hSc := HSS.out w hSw; clear hSw; go_simp; first | done | with_reducible rfl)
      try simp only [Act.put, List.setIfInBounds_toArray, List.set_cons_zero, List.set_cons_succ]
      refine held_on (i := 1) (d := (some 35)) (v := ?_) rfl rfl (by kernel_rfl) (by kernel_rfl) (by kernel_rfl) (fun _ _ _ h => h) (by rfl) hHeld ?_ ?_
      rotate_left
      focus (intro w hSw; have hSc := HSS.out w hSw; clear hSw; go_simp; first | done | with_reducible rfl)
      try simp only [Act.put, List.setIfInBounds_toArray, List.set_cons_zero, List.set_cons_succ]
      refine held_on (i := 2) (d := (some 36)) (v := ?_) rfl rfl (by kernel_rfl) (by kernel_rfl) (by kernel_rfl) (fun _ _ _ h => h) (by rfl) hHeld ?_ ?_
      rotate_left
      focus (intro w hSw; have hSc := HSS.out w hSw; clear hSw; go_simp; first | done | with_reducible rfl)
      try simp only [Act.put, List.setIfInBounds_toArray, List.set_cons_zero, List.set_cons_succ]
      refine held_on (i := 3) (d := (some 37)) (v := ?_) rfl rfl (by kernel_rfl) (by kernel_rfl) (by kernel_rfl) (fun _ _ _ h => h) (by rfl) hHeld ?_ ?_
      rotate_left
      focus (intro w hSw; have hSc := HSS.out w hSw; clear hSw; go_simp; first | done | with_reducible rfl)
      try simp only [Act.put, List.setIfInBounds_toArray, List.set_cons_zero, List.set_cons_succ]
      refine held_on (i := 5) (d := (some 39)) (v := ?_) rfl rfl (by kernel_rfl) (by kernel_rfl) (by kernel_rfl) (fun _ _ _ h => h) (by rfl) hHeld ?_ ?_
      rotate_left
      focus (intro w hSw; have hSc := HSS.out w hSw; clear hSw; go_simp; first | done | with_reducible rfl)
      try simp only [Act.put, List.setIfInBounds_toArray, List.set_cons_zero, List.set_cons_succ]
      refine held_on (i := 6) (d := (some 40)) (v := ?_) rfl rfl (by kernel_rfl) (by kernel_rfl) (by kernel_rfl) (fun _ _ _ h => h) (by rfl) hHeld ?_ ?_
      rotate_left
      focus (intro w hSw; have hSc := HSS.out w hSw; clear hSw; go_simp; first | done | with_reducible rfl)
      try simp only [Act.put, List.setIfInBounds_toArray, List.set_cons_zero, List.set_cons_succ]
      refine held_on (i := 7) (d := (some 41)) (v := ?_) rfl rfl (by kernel_rfl) (by kernel_rfl) (by kernel_rfl) (fun _ _ _ h => h) (by rfl) hHeld ?_ ?_
      rotate_left
      focus (intro w hSw; have hSc := HSS.out w hSw; clear hSw; go_simp; first | done | with_reducible rfl)
      try simp only [Act.put, List.setIfInBounds_toArray, List.set_cons_zero, List.set_cons_succ]
      refine held_on (i := 8) (d := (some 42)) (v := ?_) rfl rfl (by kernel_rfl) (by kernel_rfl) (by kernel_rfl) (fun _ _ _ h => h) (by rfl) hHeld ?_ ?_
      rotate_left
      focus (intro w hSw; have hSc := HSS.out w hSw; clear hSw; go_simp; first | done | with_reducible rfl)
      try simp only [Act.put, List.setIfInBounds_toArray, List.set_cons_zero, List.set_cons_succ]
      refine held_on (i := 9) (d := (some 43)) (v := ?_) rfl rfl (by kernel_rfl) (by kernel_rfl) (by kernel_rfl) (fun _ _ _ h => h) (by rfl) hHeld ?_ ?_
      rotate_left
      focus (intro w hSw; have hSc := HSS.out w hSw; clear hSw; go_simp; first | done | with_reducible rfl)
      try simp only [Act.put, List.setIfInBounds_toArray, List.set_cons_zero, List.set_cons_succ]
      refine held_call (i := 4) (by kernel_rfl) rfl (by rfl) (fun K hK => ?_)
      go_simp
      skip
      refine hK.out _ _ (hHeld.alloc _ _) (fun hHeld => ?_)
      clear hK K
      try simp only [Act.put, List.setIfInBounds_toArray, List.set_cons_zero, List.set_cons_succ]
      refine held_call (i := 10) (by kernel_rfl) rfl (by rfl) (fun K hK => ?_)
      go_simp
      (refine (HSAME.out _ ((Ext.refl W4).drew)).mono ?_; rintro e w6 ⟨rfl, hx6⟩)
      refine hK.out _ _ (((Ext.refl W4).drew).trans hx6) (fun hHeld => ?_)
      clear hK K
      try simp only [Act.put, List.setIfInBounds_toArray, List.set_cons_zero, List.set_cons_succ]
      refine held_on (i := 11) (d := (some 45)) (v := ?_) rfl rfl (by kernel_rfl) (by kernel_rfl) (by kernel_rfl) (fun _ _ _ h => h) (by rfl) hHeld ?_ ?_
      rotate_left
      focus (intro w hSw; have hSc := HSS.out w hSw; clear hSw; go_simp; first | done | with_reducible rfl)
      try simp only [Act.put, List.setIfInBounds_toArray, List.set_cons_zero, List.set_cons_succ]
      refine held_on (i := 12) (d := (some 46)) (v := ?_) rfl rfl (by kernel_rfl) (by kernel_rfl) (by kernel_rfl) (fun _ _ _ h => h) (by rfl) hHeld ?_ ?_
      rotate_left
      focus (intro w hSw; have hSc := HSS.out w hSw; clear hSw; go_simp; first | done | with_reducible rfl)
      try simp only [Act.put, List.setIfInBounds_toArray, List.set_cons_zero, List.set_cons_succ]
      refine held_on (i := 13) (d := (some 47)) (v := ?_) rfl rfl (by kernel_rfl) (by kernel_rfl) (by kernel_rfl) (fun _ _ _ h => h) (by rfl) hHeld ?_ ?_
      rotate_left
      focus (intro w hSw; have hSc := HSS.out w hSw; clear hSw; go_simp; first | done | with_reducible rfl)
      try simp only [Act.put, List.setIfInBounds_toArray, List.set_cons_zero, List.set_cons_succ]
      refine held_on (i := 14) (d := (some 48)) (v := ?_) rfl rfl (by kernel_rfl) (by kernel_rfl) (by kernel_rfl) (fun _ _ _ h => h) (by rfl) hHeld ?_ ?_
      rotate_left
      focus (intro w hSw; have hSc := HSS.out w hSw; clear hSw; go_simp; first | done | with_reducible rfl)
      try simp only [Act.put, List.setIfInBounds_toArray, List.set_cons_zero, List.set_cons_succ]
      refine held_on (i := 15) (d := (some 49)) (v := ?_) rfl rfl (by kernel_rfl) (by kernel_rfl) (by kernel_rfl) (fun _ _ _ h => h) (by rfl) hHeld ?_ ?_
      rotate_left
      focus (intro w hSw; have hSc := HSS.out w hSw; clear hSw; go_simp; first | done | with_reducible rfl)
      try simp only [Act.put, List.setIfInBounds_toArray, List.set_cons_zero, List.set_cons_succ]
      refine held_on (i := 16) (d := (some 50)) (v := ?_) rfl rfl (by kernel_rfl) (by kernel_rfl) (by kernel_rfl) (fun _ _ _ h => h) (by rfl) hHeld ?_ ?_
      rotate_left
      focus (intro w hSw; have hSc := HSS.out w hSw; clear hSw; go_simp; first | done | with_reducible rfl)
      try simp only [Act.put, List.setIfInBounds_toArray, List.set_cons_zero, List.set_cons_succ]
      refine held_on (i := 17) (d := (some 51)) (v := ?_) rfl rfl (by kernel_rfl) (by kernel_rfl) (by kernel_rfl) (fun _ _ _ h => h) (by rfl) hHeld ?_ ?_
      rotate_left
      focus (intro w hSw; have hSc := HSS.out w hSw; clear hSw; go_simp; first | done | with_reducible rfl)
      try simp only [Act.put, List.setIfInBounds_toArray, List.set_cons_zero, List.set_cons_succ]
      refine held_on (i := 18) (d := (some 52)) (v := ?_) rfl rfl (by kernel_rfl) (by kernel_rfl) (by kernel_rfl) (fun _ _ _ h => h) (by rfl) hHeld ?_ ?_
      rotate_left
      focus (intro w hSw; have hSc := HSS.out w hSw; clear hSw; go_simp; first | done | with_reducible rfl)
      try simp only [Act.put, List.setIfInBounds_toArray, List.set_cons_zero, List.set_cons_succ]
      refine held_on (i := 19) (d := (some 53)) (v := ?_) rfl rfl (by kernel_rfl) (by kernel_rfl) (by kernel_rfl) (fun _ _ _ h => h) (by rfl) hHeld ?_ ?_
      rotate_left
      focus (intro w hSw; have hSc := HSS.out w hSw; clear hSw; go_simp; first | done | with_reducible rfl)
      try simp only [Act.put, List.setIfInBounds_toArray, List.set_cons_zero, List.set_cons_succ]
      refine held_on (i := 21) (d := (some 55)) (v := ?_) rfl rfl (by kernel_rfl) (by kernel_rfl) (by kernel_rfl) (fun _ _ _ h => h) (by rfl) hHeld ?_ ?_
      rotate_left
      focus (intro w hSw; have hSc := HSS.out w hSw; clear hSw; go_simp; first | done | with_reducible rfl)
      try simp only [Act.put, List.setIfInBounds_toArray, List.set_cons_zero, List.set_cons_succ]
      refine held_call (i := 20) (by kernel_rfl) rfl (by rfl) (fun K hK => ?_)
      go_simp
      (refine (HRANK.out _ hHeld).mono ?_; rintro e w7 ⟨rfl, hx7⟩)
      refine hK.out _ _ (hHeld.trans hx7) (fun hHeld => ?_)
      clear hK K
      try simp only [Act.put, List.setIfInBounds_toArray, List.set_cons_zero, List.set_cons_succ]
      refine held_on (i := 22) (d := (some 56)) (v := ?_) rfl rfl (by kernel_rfl) (by kernel_rfl) (by kernel_rfl) (fun _ _ _ h => h) (by rfl) hHeld ?_ ?_
      rotate_left
      focus (intro w hSw; have hSc := HSS.out w hSw; clear hSw; go_simp; first | done | with_reducible rfl)
      try simp only [Act.put, List.setIfInBounds_toArray, List.set_cons_zero, List.set_cons_succ]
      refine held_on (i := 23) (d := (some 57)) (v := ?_) rfl rfl (by kernel_rfl) (by kernel_rfl) (by kernel_rfl) (fun _ _ _ h => h) (by rfl) hHeld ?_ ?_
      rotate_left
      focus (intro w hSw; have hSc := HSS.out w hSw; clear hSw; go_simp; first | done | with_reducible rfl)
      try simp only [Act.put, List.setIfInBounds_toArray, List.set_cons_zero, List.set_cons_succ]
      refine wpAnyH_done (by kernel_rfl) ?_ _
      have HX8 := Lib.hid (HX4.out.trans hHeld)
      clear hHeld hx7 hx6
      go_wp2_with fail
      go_roundw
      case rel => exact ⟨j + 1, hlt, by go_num, HX8.out⟩
      case measure => simp [intOf]; omega
    · obtain rfl : j = ms.length := by omega
      have hat := treeAtI_any (i := a) HME.out.at_ HME.out.ok (by rw [HME.out.ents]; omega) ha0 ha1
      rw [treeV, HL.out.root, HME.out.ents] at hat
      by_cases hn : a < 0
      · rw [show getI es a = none from if_pos hn] at hat
        have g3 : decide ((0 : Int) ≤ a) = false := decide_eq_false (by omega)
        have g3' : ¬ (0 : Int) ≤ a := by omega
        clear hX hbox
        have HAT := Lib.hid hat
        clear hat
        go_wp2_with fail
        refine HAT.out.mono ?_
        rintro e w3 ⟨sl, so, rfl, hx3, -⟩
        have HX3 := Lib.hid ((HX.out.trans hx3).alloc (cells7 ⟨noE.1, noE.2, sl, so⟩) 56)
        clear hx3 HAT
        go_wp2_with fail
        refine (known08 _).mono ?_
        rintro e w5 ⟨rfl, hb5⟩
        have HB5 := Lib.hid hb5
        clear hb5
        go_wp2_with fail
        go_ret
        exact ⟨rfl, (HX2.out.trans HX3.out).below.trans (HB5.out.mono (HX2.out.trans HX3.out).size)⟩
      · have g3 : decide ((0 : Int) ≤ a) = true := decide_eq_true (by omega)
        have g3' : (0 : Int) ≤ a := by omega
        by_cases hm : a < (ms.length : Int)
        · obtain ⟨en, hen⟩ : ∃ en, getI es a = some en := ⟨es[a.toNat]'(by have := HLEN.out; omega), by unfold getI; rw [if_neg hn]; exact List.getElem?_eq_getElem (by have := HLEN.out; omega)⟩
          rw [hen] at hat
          have g4 : decide (a < (ms.length : Int)) = true := decide_eq_true hm
          clear hX hbox
          have HAT := Lib.hid hat
          clear hat
          go_wp2_with fail
          refine HAT.out.mono ?_
          rintro e w3 ⟨sl, so, rfl, hx3, -⟩
          have HX3 := Lib.hid ((HX.out.trans hx3).alloc (cells7 ⟨en.1, en.2, sl, so⟩) 56)
          clear hx3 HAT
          go_wp2_with fail
          refine (known08 _).mono ?_
          rintro e w5 ⟨rfl, hb5⟩
          have HB5 := Lib.hid hb5
          clear hb5
          go_wp2_with fail
          go_ret
          exact ⟨rfl, (HX2.out.trans HX3.out).below.trans (HB5.out.mono (HX2.out.trans HX3.out).size)⟩
        · rw [getI_none (by have := HLEN.out; omega)] at hat
          have g4 : decide (a < (ms.length : Int)) = false := decide_eq_false hm
          clear hX hbox
          have HAT := Lib.hid hat
          clear hat
          go_wp2_with fail
          refine HAT.out.mono ?_
          rintro e w3 ⟨sl, so, rfl, hx3, -⟩
          have HX3 := Lib.hid ((HX.out.trans hx3).alloc (cells7 ⟨noE.1, noE.2, sl, so⟩) 56)
          clear hx3 HAT
          go_wp2_with fail
          refine (known08 _).mono ?_
          rintro e w5 ⟨rfl, hb5⟩
          have HB5 := Lib.hid hb5
          clear hb5
          go_wp2_with fail
          go_ret
          exact ⟨rfl, (HX2.out.trans HX3.out).below.trans (HB5.out.mono (HX2.out.trans HX3.out).size)⟩
theorem scanat_w (s : Sl) (xs : List LE) (a : Int) (w : World) (h : ES w (Lt w.heap.size) s xs) (ha : (Lit.int .i64 a).wf = true) : Calls Try.prog 15 #[.slice s.a xs.length s.c, .int .i64 a] w fun e w' => e = .returned (.bool true) ∧ Below w.heap.size w w' := by
  have hr := i64_bounds ha
  by_cases hl : xs.length ≤ 400
  · exact scanat_yes a (by omega) (by omega) h hl
  · exact scanat_not a (by omega)
end Go.Proofs.Ytpapoalgocmlaaa
