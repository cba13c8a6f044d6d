/- ScanPrefix: which keys begin with a text, whatever bytes that has. -/
import Derived.Test.YtpapoalgocmlaaaScanAll
namespace Go.Proofs.Ytpapoalgocmlaaa
open Go.RowKit Go.Shelf
set_option linter.unusedVariables false
set_option linter.unusedSimpArgs false
attribute [local go_sem] Oper.semAt_some

set_option maxRecDepth 100000 in
theorem scanpre_not {w : World} {s : Sl} {n : Nat} (k : ByteArray) (h : 400 < n) : Calls Try.prog 13 #[.slice s.a n s.c, .string k] w fun e w' => e = .returned (.bool true) ∧ Below w.heap.size w w' := by
  have hm := made_not (w := w) (s := s) h
  have HM := Lib.hid hm
  clear hm
  refine (callsIn_wide (n := 6)).1 ?_
  refine callsIn_of_wp_marks Try.func13 rfl trivial ?_ rfl
  simp only [Try.ntmps13, List.size_toArray, List.length_cons, List.length_nil, Nat.reduceAdd, Nat.reduceSub, Array.replicate_succ, Array.replicate_zero, List.push_toArray, List.append_toArray, List.nil_append, List.cons_append]
  gi_wp2_with fail
  refine ⟨trivial, ?_⟩
  refine (callsIn_wide.2 HM.out).mono ?_
  rintro e w1 ⟨rfl, hx1⟩
  have hx2 := hx1.alloc #[.pointer none] 30
  have HX2 := Lib.hid hx2
  clear hx1 hx2
  gi_wp2_with fail
  refine ⟨trivial, ?_⟩
  refine (callsIn_wide.2 (known08 _)).mono ?_
  rintro e w2 ⟨rfl, hb2⟩
  have HB2 := Lib.hid hb2
  clear hb2
  gi_wp2_with fail
  refine ⟨.bool true, ?_, rfl, HX2.out.below.trans (HB2.out.mono HX2.out.size)⟩
  simp [results, Try.f13, go_sem]
set_option maxRecDepth 100000 in
set_option maxHeartbeats 8000000 in
theorem scanpre_yes {w : World} {s : Sl} {xs : List LE} (k : ByteArray) (hk : k.size ≤ maxLen) (h : ES w (Lt w.heap.size) s xs) (hl : xs.length ≤ 400) : Calls Try.prog 13 #[.slice s.a xs.length s.c, .string k] w fun e w' => e = .returned (.bool true) ∧ Below w.heap.size w w' := by
  obtain ⟨i0, hi, hz0, hz1', hz2⟩ := info_parts Try.infoEntry
  have hm := made_any h hl
  have HM := Lib.hid hm
  have HNI := Lib.hid (fun (W : World) B => eql_func_nil9 (P := Try.prog) W (t := 96) (.func 105) #[] (rangeL B) Try.underlying96)
  clear hm h hl
  refine (callsIn_wide (n := 6)).1 ?_
  refine callsIn_of_wp_marks Try.func13 rfl trivial ?_ rfl
  simp only [Try.ntmps13, List.size_toArray, List.length_cons, List.length_nil, Nat.reduceAdd, Nat.reduceSub, Array.replicate_succ, Array.replicate_zero, List.push_toArray, List.append_toArray, List.nil_append, List.cons_append]
  gi_wp2_with fail
  refine ⟨trivial, ?_⟩
  refine (callsIn_wide.2 HM.out).mono ?_
  rintro e w1 ⟨T, sm, ms, rfl, hmade, hx1⟩
  obtain ⟨p, hp⟩ := rootV_ptr T
  dsimp only [treeV]
  rw [hp]
  obtain ⟨es, hes⟩ : ∃ es, putAll [] (xs.map LE.ent) = es := ⟨_, rfl⟩
  rw [hes] at hmade
  have hx12 : Ext w1 (w1.alloc (.cells #[.pointer p] 30)) := (Ext.refl w1).alloc _ _
  have HMA := Lib.hid hmade
  have HX1 := Lib.hid hx1
  have HP := Lib.hid hp
  have HLA := Lib.hid (show (prefixE k es).length ≤ 400 from Nat.le_trans (List.length_filter_le _ _) hmade.few)
  have hpf := prefix8_any (hmade.ext hx12).list (by have := hmade.len; have := hmade.few; omega) k hk
  rw [hmade.ms_] at hpf
  have HPF := Lib.hid (show Calls Try.prog 55 #[.slice sm.a ms.length sm.c, .string k] (w1.alloc (.cells #[.pointer p] 30)) (SelPost (prefixE k es) (w1.alloc (.cells #[.pointer p] 30))) from hpf)
  have HPR := Lib.hid (show ∀ W, Calls Try.prog 56 #[.agg #[.pointer p], .string k] W (PrefixPost T k W) from fun W => by have := prefix_any W T k hk; rwa [treeV, hp] at this)
  have HBT := Lib.hid (Blk.new w1 30 #[.pointer p])
  have HX12 := Lib.hid hx12
  have hkeys := fun (W : World) (hW : Below (w1.alloc (.cells #[.pointer p] 30)).heap.size (w1.alloc (.cells #[.pointer p] 30)) W) => treeKeys_any (Bw.tree (w := w1.alloc (.cells #[.pointer p] 30)) (hmade.ext hx12).at_ hW) hmade.ok (by rw [hmade.ents]; have := hmade.few; omega) k hk
  rw [treeV, hp, hmade.ents] at hkeys
  have HKY := Lib.hid hkeys
  have hs12 := hx12.size
  clear HM hmade hx1 hes hp hx12 hpf hkeys
  gi_wp2_with fail
  generalize w1.alloc (.cells #[.pointer p] 30) = W2 at *
  refine ⟨trivial, ?_⟩
  refine (callsIn_wide.2 HPF.out).mono ?_
  rintro e w3 ⟨s8, zs, rfl, hz8, hs8, hx3⟩
  have hbt3 := HBT.out.ext hx3
  have ct : w3.cell? ⟨w1.heap.size, 0, none⟩ = some (.pointer p) := hbt3.cell 0
  have hltt := hbt3.lt
  have HX3 := Lib.hid hx3
  have HS8 := Lib.hid hs8
  have HZ8 := Lib.hid hz8
  have hs23 := hx3.size
  clear hx3 hs8 hbt3 hz8
  gi_wp2_with fail
  generalize hW4 : World.alloc w3 _ = W4
  have HX4 := Lib.hid (show Ext w3 W4 by rw [← hW4]; exact (Ext.refl w3).alloc _ _)
  have HBG := Lib.hid (show Blk W4 w3.heap.size 53 #[.slice none 0 0] by rw [← hW4]; exact Blk.new w3 _ _)
  have hs34 := HX4.out.size
  clear hW4 ct
  try gi_wp2_with fail
  refine ⟨trivial, ?_⟩
  refine (callsIn_wide.2 (HPR.out W4)).mono ?_
  rintro e w4 ⟨B, en, op, rfl, hb4, hrb, hB, hpe⟩
  have hX24 := HX3.out.trans HX4.out
  have hb24 := Bw.trans hX24.below hb4
  have HB24 := Lib.hid hb24
  have HBG4 := Lib.hid (Bw.blk HBG.out hb4)
  have HBT4 := Lib.hid (Bw.blk (HBT.out.ext hX24) hb4)
  have hE12 := (HX12.out).below
  have hb14 := Bw.trans HX12.out.below hb24
  have HB14 := Lib.hid hb14
  have hseq := range_seq (F := Lt w1.heap.size) (Bw.tree HMA.out.at_ hb14) HMA.out.ok (by rw [HMA.out.ents]; have := HMA.out.few; omega) hrb
  rw [hpe, HMA.out.ents] at hseq
  have HSQ := Lib.hid hseq
  have hBl := hrb.lt
  have hs4 := hb4.size
  have HAG34 := Lib.hid (show Agree (Lt w3.heap.size) w3 w4 from (HX4.out.agree fun b hb => hb).trans (Agree.of_below hb4 (F := Lt w3.heap.size) fun b hb => by have hb : b < w3.heap.size := hb; have := HX4.out.size; omega))
  have n4 := HNI.out w4 B
  have hl1 : w3.heap.size < w4.heap.size := HBG4.out.lt
  have hs13 : w1.heap.size < w3.heap.size := by omega
  have hw3B : w3.heap.size < W4.heap.size := HBG.out.lt
  clear hb4 hrb hseq hX24 hb24 hb14 hpe hE12
  gi_wp2_with fail
  refine wpIn_rangeC (gf := 105) (lb := rangeL B) rfl (enters_of Try.func105 (by kernel_rfl) rfl) HSQ.out (Agree.refl _) (Nat.le_refl _)
    (fun b hb => hb.elim (fun h => by have h : b < w1.heap.size := h; omega) (fun h => by omega)) (fun _ => rfl)
    (fun pre C W => Coll w4 w3.heap.size (pre.map LE.ent) C W) (fun _ _ _ => False) (fun b => b = w3.heap.size)
    (fun b hb => ⟨by omega, fun h => h.elim (fun h => by have h : b < w1.heap.size := h; omega) (fun h => by omega)⟩)
    (fun h k => h.turn hl1 k) (fun h k => h) (fun W hW hz => Coll.start HBG4.out hW hz) ?round ?done ?stop
  case round =>
    rintro pre C x W0' W1 ⟨⟨s, ys, rfl, hblk, ho, hes⟩, hst, hsz'⟩ hlt hsz hnL hx01 hG
    obtain ⟨es', hes'⟩ : ∃ es', pre.map LE.ent = es' := ⟨_, rfl⟩
    have hyl : ys.length < 1000000 := by
      have h1 := (List.getElem?_eq_some_iff.1 hG.at_).1
      have h2 : ys.length = pre.length := by have := congrArg List.length hes; simpa using this
      have := HLA.out
      omega
    have hsn : (pre ++ [x]).map LE.ent = es' ++ [x.ent] := by rw [List.map_append, hes']; rfl
    rw [hes'] at hes
    have hb3 := Blk.new W1 49 (cells6 x)
    have hx3 : Ext W1 (W1.alloc (.cells (cells6 x) 49)) := (Ext.refl W1).alloc _ _
    have HB3 := Lib.hid hb3
    have HX3 := Lib.hid hx3
    have HBLK := Lib.hid hblk
    have HO := Lib.hid ho
    have HES := Lib.hid hes
    have HST := Lib.hid hst
    have HX01 := Lib.hid hx01
    have HG := Lib.hid hG
    have HSN := Lib.hid hsn
    clear hb3 hx3 hblk ho hes hst hx01 hG hnL hlt hes' hsn
    gi_wp2_with fail
    refine ⟨HX3.out, fun W3 k3 => ?_⟩
    have h03 := ((HX01.out.trans HX3.out).st _).trans k3
    have hs03 := h03.size
    have hs01 := HX01.out.size
    have hbv := k3.blk HB3.out (by omega)
    obtain ⟨c0, c1, c2, c3, c4, c5⟩ := hbv.c6
    have lv := hbv.lt
    have hgb := h03.blk HBLK.out (by omega)
    have cg : W3.cell? ⟨w3.heap.size, 0, none⟩ = some (.slice s.a ys.length s.c) := hgb.cell 0
    have fg := Lib.hid (hgb.frozen 0)
    have lg := hgb.lt
    have hrow0 : ∀ b, s.row = some b → w4.heap.size + 2 ≤ b ∧ b < W0'.heap.size := fun b hb => own_row HO.out.own hb
    have hx34 : Ext W3 (W3.drew.alloc (.cells zero7 56)) := ((Ext.refl W3).drew).alloc _ _
    have ho3 : OE W3 (w4.heap.size + 2) s ys := HO.out.agree' (h03.agree.mono fun i hi => ⟨hi.2, by have := hi.1; omega⟩) h03.size
    have HOWN4 := Lib.hid (ho3.ext hx34).own
    have HZB := Lib.hid (Rd.block (size := 7) (n := 1) (cs := zeroL) (Blk.new W3.drew 56 zero7) (by decide) rfl)
    have hrv : RV W3 (In W0'.heap.size W3.heap.size) x.v x.sl x.so := ((HG.out.val.agree (HX3.out.agree fun b hb => hb.2)).agree (k3.agree.mono fun i hi => ⟨Nat.lt_of_lt_of_le hi.2 HX3.out.size, by have := hi.1; omega⟩)).mono fun i hi => ⟨hi.1, Nat.lt_of_lt_of_le hi.2 (Nat.le_trans HX3.out.size k3.size)⟩
    have h63 : ys.length + 1 ≤ maxLen := by unfold maxLen; omega
    have hby : (ys.length + 1) * 104 ≤ 140737488355328 := by omega
    have hbase : w4.heap.size + 2 ≤ (W3.drew.alloc (.cells zero7 56)).heap.size := by rw [World.size_alloc, World.size_drew]; omega
    have hz1 : ∀ u ∈ zeroL, u.oneCell' = true := by intro u hu; simp only [zeroL, List.mem_cons, List.not_mem_nil, or_false] at hu; rcases hu with rfl | rfl | rfl | rfl | rfl | rfl | rfl <;> rfl
    have H03 := Lib.hid h03
    have HRV := Lib.hid hrv
    have HX34 := Lib.hid hx34
    have HGB := Lib.hid hgb
    have hne1 : ¬ w3.heap.size = W1.heap.size := by omega
    have hix : (ys.length : Int) < (ys.length : Int) + 1 := by omega
    have hsW1 : W0'.heap.size ≤ W1.heap.size := hs01
    clear k3 h03 hbv hgb hx34 ho3 hrv
    gi_wp2_with fail
    refine wpIn_region_round (S := (fun _ => True)) (by kernel_rfl) (by rintro ⟨a, w, h⟩; exact h) (by kernel_rfl) (trivial) (fun hHeld => ?_)
    refine held_on (i := 1) (d := (some 36)) (v := ?_) rfl rfl (by kernel_rfl) (by kernel_rfl) (by kernel_rfl) (fun _ _ _ h => h) (by rfl) hHeld ?_ ?_
    rotate_left
    focus (intro w hSw; (try dsimp only at hSw); go_simp; first | done | with_reducible rfl)
    try simp only [Act.put, List.setIfInBounds_toArray, List.set_cons_zero, List.set_cons_succ]
    refine held_three (i := 0) (j := 2) (k := 5) (by kernel_rfl) rfl rfl rfl (by rfl) (by rfl) (by rfl) (fun K hK => ?_) (fun K hK => ?_) (fun K hK => ?_)
    · go_simp
      skip
      refine hK.out _ _ (trivial) (fun hHeld => ?_)
      clear hK K
      try simp only [Act.put, List.setIfInBounds_toArray, List.set_cons_zero, List.set_cons_succ]
      refine held_on (i := 4) (d := (some 39)) (v := ?_) rfl rfl (by kernel_rfl) (by kernel_rfl) (by kernel_rfl) (fun _ _ _ h => h) (by rfl) hHeld ?_ ?_
      rotate_left
      focus (intro w hSw; (try dsimp only at hSw); go_simp; first | done | with_reducible rfl)
      try simp only [Act.put, List.setIfInBounds_toArray, List.set_cons_zero, List.set_cons_succ]
      refine held_two (i := 2) (j := 5) (by kernel_rfl) rfl rfl (by rfl) (by rfl) (fun K hK => ?_) (fun K hK => ?_)
      · go_simp
        skip
        refine hK.out _ _ (trivial) (fun hHeld => ?_)
        clear hK K
        try simp only [Act.put, List.setIfInBounds_toArray, List.set_cons_zero, List.set_cons_succ]
        refine held_on (i := 3) (d := (some 38)) (v := ?_) rfl rfl (by kernel_rfl) (by kernel_rfl) (by kernel_rfl) (fun _ _ _ h => h) (by rfl) hHeld ?_ ?_
        rotate_left
        focus (intro w hSw; (try dsimp only at hSw); go_simp; first | done | with_reducible rfl)
        try simp only [Act.put, List.setIfInBounds_toArray, List.set_cons_zero, List.set_cons_succ]
        refine held_call (i := 5) (by kernel_rfl) rfl (by rfl) (fun K hK => ?_)
        go_simp
        skip
        refine hK.out _ _ (trivial) (fun hHeld => ?_)
        clear hK K
        try simp only [Act.put, List.setIfInBounds_toArray, List.set_cons_zero, List.set_cons_succ]
        refine held_call (i := 6) (by kernel_rfl) rfl (by rfl) (fun K hK => ?_)
        skip
        refine wp_append_x _ (.tmp 35) (.tmp 40) 53 rfl (w4.heap.size + 2) 56 i0 _ 7 104 Try.underlying53 hi hz0 hz1' hz2 rfl (by decide) s ys.length (flatE ys) (by rfl) HOWN4.out (fun b => b = W3.heap.size) ⟨some ⟨W3.heap.size, 0, none⟩, 1⟩ 1 zeroL (by rfl) HZB.out hz1 h63 hby hbase ?_; intro s3 w5 hown5 hwr5 hs5; obtain ⟨g, cap, rfl, hbg, hnc, hcm, lg5, fg5, z0, z1, z2, z3, z4, z5, z6⟩ := row_zero hown5 (flatE_len ys); have h5 := hwr5.cell0 (o := 0) HX34.out (fun e => by have := (hrow0 _ e).1; omega) lg; have cB5 := h5.1.trans cg; have lB5 := h5.2; have fB5 := (hwr5.fz (w3.heap.size) 0).trans ((HX34.out.frozen (o := 0) lg).trans fg.out); have hgB : ¬ g = w3.heap.size := (by omega); have hBg : ¬ w3.heap.size = g := (by omega); have HOW := Lib.hid hown5; have HWR := Lib.hid hwr5; have HS5 := Lib.hid hs5; clear hown5 hwr5 hs5 h5
        refine hK.out _ _ (trivial) (fun hHeld => ?_)
        clear hK K
        try simp only [Act.put, List.setIfInBounds_toArray, List.set_cons_zero, List.set_cons_succ]
        refine held_on (i := 7) (d := (some 42)) (v := ?_) rfl rfl (by kernel_rfl) (by kernel_rfl) (by kernel_rfl) (fun _ _ _ h => h) (by rfl) hHeld ?_ ?_
        rotate_left
        focus (intro w hSw; (try dsimp only at hSw); go_simp; first | done | with_reducible rfl)
        try simp only [Act.put, List.setIfInBounds_toArray, List.set_cons_zero, List.set_cons_succ]
        refine held_two (i := 8) (j := 9) (by kernel_rfl) rfl rfl (by rfl) (by rfl) (fun K hK => ?_) (fun K hK => ?_)
        · go_simp
          skip
          refine hK.out _ _ (trivial) (fun hHeld => ?_)
          clear hK K
          try simp only [Act.put, List.setIfInBounds_toArray, List.set_cons_zero, List.set_cons_succ]
          refine held_call (i := 9) (by kernel_rfl) rfl (by rfl) (fun K hK => ?_)
          go_simp
          skip
          refine hK.out _ _ (trivial) (fun hHeld => ?_)
          clear hK K
          try simp only [Act.put, List.setIfInBounds_toArray, List.set_cons_zero, List.set_cons_succ]
          refine wpAnyH_done (by kernel_rfl) ?_ _
          gi_wp2_with fail
          have hL := (coll_leaf1 hl1 HBLK.out HO.out HES.out HST.out hsz' H03.out HRV.out HG.out.key HX34.out HWR.out HS5.out hby HOW.out).1
          rw [← HSN.out] at hL
          exact hL
        · go_simp
          skip
          refine hK.out _ _ (trivial) (fun hHeld => ?_)
          clear hK K
          try simp only [Act.put, List.setIfInBounds_toArray, List.set_cons_zero, List.set_cons_succ]
          refine held_call (i := 8) (by kernel_rfl) rfl (by rfl) (fun K hK => ?_)
          go_simp
          skip
          refine hK.out _ _ (trivial) (fun hHeld => ?_)
          clear hK K
          try simp only [Act.put, List.setIfInBounds_toArray, List.set_cons_zero, List.set_cons_succ]
          refine wpAnyH_done (by kernel_rfl) ?_ _
          gi_wp2_with fail
          have hL := (coll_leaf1 hl1 HBLK.out HO.out HES.out HST.out hsz' H03.out HRV.out HG.out.key HX34.out HWR.out HS5.out hby HOW.out).2
          rw [← HSN.out] at hL
          exact hL
      · go_simp
        skip
        refine hK.out _ _ (trivial) (fun hHeld => ?_)
        clear hK K
        try simp only [Act.put, List.setIfInBounds_toArray, List.set_cons_zero, List.set_cons_succ]
        refine held_call (i := 2) (by kernel_rfl) rfl (by rfl) (fun K hK => ?_)
        go_simp
        skip
        refine hK.out _ _ (trivial) (fun hHeld => ?_)
        clear hK K
        try simp only [Act.put, List.setIfInBounds_toArray, List.set_cons_zero, List.set_cons_succ]
        refine held_on (i := 3) (d := (some 38)) (v := ?_) rfl rfl (by kernel_rfl) (by kernel_rfl) (by kernel_rfl) (fun _ _ _ h => h) (by rfl) hHeld ?_ ?_
        rotate_left
        focus (intro w hSw; (try dsimp only at hSw); go_simp; first | done | with_reducible rfl)
        try simp only [Act.put, List.setIfInBounds_toArray, List.set_cons_zero, List.set_cons_succ]
        refine held_call (i := 6) (by kernel_rfl) rfl (by rfl) (fun K hK => ?_)
        skip
        refine wp_append_x _ (.tmp 35) (.tmp 40) 53 rfl (w4.heap.size + 2) 56 i0 _ 7 104 Try.underlying53 hi hz0 hz1' hz2 rfl (by decide) s ys.length (flatE ys) (by rfl) HOWN4.out (fun b => b = W3.heap.size) ⟨some ⟨W3.heap.size, 0, none⟩, 1⟩ 1 zeroL (by rfl) HZB.out hz1 h63 hby hbase ?_; intro s3 w5 hown5 hwr5 hs5; obtain ⟨g, cap, rfl, hbg, hnc, hcm, lg5, fg5, z0, z1, z2, z3, z4, z5, z6⟩ := row_zero hown5 (flatE_len ys); have h5 := hwr5.cell0 (o := 0) HX34.out (fun e => by have := (hrow0 _ e).1; omega) lg; have cB5 := h5.1.trans cg; have lB5 := h5.2; have fB5 := (hwr5.fz (w3.heap.size) 0).trans ((HX34.out.frozen (o := 0) lg).trans fg.out); have hgB : ¬ g = w3.heap.size := (by omega); have hBg : ¬ w3.heap.size = g := (by omega); have HOW := Lib.hid hown5; have HWR := Lib.hid hwr5; have HS5 := Lib.hid hs5; clear hown5 hwr5 hs5 h5
        refine hK.out _ _ (trivial) (fun hHeld => ?_)
        clear hK K
        try simp only [Act.put, List.setIfInBounds_toArray, List.set_cons_zero, List.set_cons_succ]
        refine held_on (i := 7) (d := (some 42)) (v := ?_) rfl rfl (by kernel_rfl) (by kernel_rfl) (by kernel_rfl) (fun _ _ _ h => h) (by rfl) hHeld ?_ ?_
        rotate_left
        focus (intro w hSw; (try dsimp only at hSw); go_simp; first | done | with_reducible rfl)
        try simp only [Act.put, List.setIfInBounds_toArray, List.set_cons_zero, List.set_cons_succ]
        refine held_two (i := 8) (j := 9) (by kernel_rfl) rfl rfl (by rfl) (by rfl) (fun K hK => ?_) (fun K hK => ?_)
        · go_simp
          skip
          refine hK.out _ _ (trivial) (fun hHeld => ?_)
          clear hK K
          try simp only [Act.put, List.setIfInBounds_toArray, List.set_cons_zero, List.set_cons_succ]
          refine held_call (i := 9) (by kernel_rfl) rfl (by rfl) (fun K hK => ?_)
          go_simp
          skip
          refine hK.out _ _ (trivial) (fun hHeld => ?_)
          clear hK K
          try simp only [Act.put, List.setIfInBounds_toArray, List.set_cons_zero, List.set_cons_succ]
          refine wpAnyH_done (by kernel_rfl) ?_ _
          gi_wp2_with fail
          have hL := (coll_leaf1 hl1 HBLK.out HO.out HES.out HST.out hsz' H03.out HRV.out HG.out.key HX34.out HWR.out HS5.out hby HOW.out).1
          rw [← HSN.out] at hL
          exact hL
        · go_simp
          skip
          refine hK.out _ _ (trivial) (fun hHeld => ?_)
          clear hK K
          try simp only [Act.put, List.setIfInBounds_toArray, List.set_cons_zero, List.set_cons_succ]
          refine held_call (i := 8) (by kernel_rfl) rfl (by rfl) (fun K hK => ?_)
          go_simp
          skip
          refine hK.out _ _ (trivial) (fun hHeld => ?_)
          clear hK K
          try simp only [Act.put, List.setIfInBounds_toArray, List.set_cons_zero, List.set_cons_succ]
          refine wpAnyH_done (by kernel_rfl) ?_ _
          gi_wp2_with fail
          have hL := (coll_leaf1 hl1 HBLK.out HO.out HES.out HST.out hsz' H03.out HRV.out HG.out.key HX34.out HWR.out HS5.out hby HOW.out).2
          rw [← HSN.out] at hL
          exact hL
    · go_simp
      skip
      refine hK.out _ _ (trivial) (fun hHeld => ?_)
      clear hK K
      try simp only [Act.put, List.setIfInBounds_toArray, List.set_cons_zero, List.set_cons_succ]
      refine held_on (i := 3) (d := (some 38)) (v := ?_) rfl rfl (by kernel_rfl) (by kernel_rfl) (by kernel_rfl) (fun _ _ _ h => h) (by rfl) hHeld ?_ ?_
      rotate_left
      focus (intro w hSw; (try dsimp only at hSw); go_simp; first | done | with_reducible rfl)
      try simp only [Act.put, List.setIfInBounds_toArray, List.set_cons_zero, List.set_cons_succ]
      refine held_two (i := 0) (j := 5) (by kernel_rfl) rfl rfl (by rfl) (by rfl) (fun K hK => ?_) (fun K hK => ?_)
      · go_simp
        skip
        refine hK.out _ _ (trivial) (fun hHeld => ?_)
        clear hK K
        try simp only [Act.put, List.setIfInBounds_toArray, List.set_cons_zero, List.set_cons_succ]
        refine held_on (i := 4) (d := (some 39)) (v := ?_) rfl rfl (by kernel_rfl) (by kernel_rfl) (by kernel_rfl) (fun _ _ _ h => h) (by rfl) hHeld ?_ ?_
        rotate_left
        focus (intro w hSw; (try dsimp only at hSw); go_simp; first | done | with_reducible rfl)
        try simp only [Act.put, List.setIfInBounds_toArray, List.set_cons_zero, List.set_cons_succ]
        refine held_call (i := 5) (by kernel_rfl) rfl (by rfl) (fun K hK => ?_)
        go_simp
        skip
        refine hK.out _ _ (trivial) (fun hHeld => ?_)
        clear hK K
        try simp only [Act.put, List.setIfInBounds_toArray, List.set_cons_zero, List.set_cons_succ]
        refine held_call (i := 6) (by kernel_rfl) rfl (by rfl) (fun K hK => ?_)
        skip
        refine wp_append_x _ (.tmp 35) (.tmp 40) 53 rfl (w4.heap.size + 2) 56 i0 _ 7 104 Try.underlying53 hi hz0 hz1' hz2 rfl (by decide) s ys.length (flatE ys) (by rfl) HOWN4.out (fun b => b = W3.heap.size) ⟨some ⟨W3.heap.size, 0, none⟩, 1⟩ 1 zeroL (by rfl) HZB.out hz1 h63 hby hbase ?_; intro s3 w5 hown5 hwr5 hs5; obtain ⟨g, cap, rfl, hbg, hnc, hcm, lg5, fg5, z0, z1, z2, z3, z4, z5, z6⟩ := row_zero hown5 (flatE_len ys); have h5 := hwr5.cell0 (o := 0) HX34.out (fun e => by have := (hrow0 _ e).1; omega) lg; have cB5 := h5.1.trans cg; have lB5 := h5.2; have fB5 := (hwr5.fz (w3.heap.size) 0).trans ((HX34.out.frozen (o := 0) lg).trans fg.out); have hgB : ¬ g = w3.heap.size := (by omega); have hBg : ¬ w3.heap.size = g := (by omega); have HOW := Lib.hid hown5; have HWR := Lib.hid hwr5; have HS5 := Lib.hid hs5; clear hown5 hwr5 hs5 h5
        refine hK.out _ _ (trivial) (fun hHeld => ?_)
        clear hK K
        try simp only [Act.put, List.setIfInBounds_toArray, List.set_cons_zero, List.set_cons_succ]
        refine held_on (i := 7) (d := (some 42)) (v := ?_) rfl rfl (by kernel_rfl) (by kernel_rfl) (by kernel_rfl) (fun _ _ _ h => h) (by rfl) hHeld ?_ ?_
        rotate_left
        focus (intro w hSw; (try dsimp only at hSw); go_simp; first | done | with_reducible rfl)
        try simp only [Act.put, List.setIfInBounds_toArray, List.set_cons_zero, List.set_cons_succ]
        refine held_two (i := 8) (j := 9) (by kernel_rfl) rfl rfl (by rfl) (by rfl) (fun K hK => ?_) (fun K hK => ?_)
        · go_simp
          skip
          refine hK.out _ _ (trivial) (fun hHeld => ?_)
          clear hK K
          try simp only [Act.put, List.setIfInBounds_toArray, List.set_cons_zero, List.set_cons_succ]
          refine held_call (i := 9) (by kernel_rfl) rfl (by rfl) (fun K hK => ?_)
          go_simp
          skip
          refine hK.out _ _ (trivial) (fun hHeld => ?_)
          clear hK K
          try simp only [Act.put, List.setIfInBounds_toArray, List.set_cons_zero, List.set_cons_succ]
          refine wpAnyH_done (by kernel_rfl) ?_ _
          gi_wp2_with fail
          have hL := (coll_leaf1 hl1 HBLK.out HO.out HES.out HST.out hsz' H03.out HRV.out HG.out.key HX34.out HWR.out HS5.out hby HOW.out).1
          rw [← HSN.out] at hL
          exact hL
        · go_simp
          skip
          refine hK.out _ _ (trivial) (fun hHeld => ?_)
          clear hK K
          try simp only [Act.put, List.setIfInBounds_toArray, List.set_cons_zero, List.set_cons_succ]
          refine held_call (i := 8) (by kernel_rfl) rfl (by rfl) (fun K hK => ?_)
          go_simp
          skip
          refine hK.out _ _ (trivial) (fun hHeld => ?_)
          clear hK K
          try simp only [Act.put, List.setIfInBounds_toArray, List.set_cons_zero, List.set_cons_succ]
          refine wpAnyH_done (by kernel_rfl) ?_ _
          gi_wp2_with fail
          have hL := (coll_leaf1 hl1 HBLK.out HO.out HES.out HST.out hsz' H03.out HRV.out HG.out.key HX34.out HWR.out HS5.out hby HOW.out).2
          rw [← HSN.out] at hL
          exact hL
      · go_simp
        skip
        refine hK.out _ _ (trivial) (fun hHeld => ?_)
        clear hK K
        try simp only [Act.put, List.setIfInBounds_toArray, List.set_cons_zero, List.set_cons_succ]
        refine held_call (i := 0) (by kernel_rfl) rfl (by rfl) (fun K hK => ?_)
        go_simp
        skip
        refine hK.out _ _ (trivial) (fun hHeld => ?_)
        clear hK K
        try simp only [Act.put, List.setIfInBounds_toArray, List.set_cons_zero, List.set_cons_succ]
        refine held_on (i := 4) (d := (some 39)) (v := ?_) rfl rfl (by kernel_rfl) (by kernel_rfl) (by kernel_rfl) (fun _ _ _ h => h) (by rfl) hHeld ?_ ?_
        rotate_left
        focus (intro w hSw; (try dsimp only at hSw); go_simp; first | done | with_reducible rfl)
        try simp only [Act.put, List.setIfInBounds_toArray, List.set_cons_zero, List.set_cons_succ]
        refine held_call (i := 6) (by kernel_rfl) rfl (by rfl) (fun K hK => ?_)
        skip
        refine wp_append_x _ (.tmp 35) (.tmp 40) 53 rfl (w4.heap.size + 2) 56 i0 _ 7 104 Try.underlying53 hi hz0 hz1' hz2 rfl (by decide) s ys.length (flatE ys) (by rfl) HOWN4.out (fun b => b = W3.heap.size) ⟨some ⟨W3.heap.size, 0, none⟩, 1⟩ 1 zeroL (by rfl) HZB.out hz1 h63 hby hbase ?_; intro s3 w5 hown5 hwr5 hs5; obtain ⟨g, cap, rfl, hbg, hnc, hcm, lg5, fg5, z0, z1, z2, z3, z4, z5, z6⟩ := row_zero hown5 (flatE_len ys); have h5 := hwr5.cell0 (o := 0) HX34.out (fun e => by have := (hrow0 _ e).1; omega) lg; have cB5 := h5.1.trans cg; have lB5 := h5.2; have fB5 := (hwr5.fz (w3.heap.size) 0).trans ((HX34.out.frozen (o := 0) lg).trans fg.out); have hgB : ¬ g = w3.heap.size := (by omega); have hBg : ¬ w3.heap.size = g := (by omega); have HOW := Lib.hid hown5; have HWR := Lib.hid hwr5; have HS5 := Lib.hid hs5; clear hown5 hwr5 hs5 h5
        refine hK.out _ _ (trivial) (fun hHeld => ?_)
        clear hK K
        try simp only [Act.put, List.setIfInBounds_toArray, List.set_cons_zero, List.set_cons_succ]
        refine held_on (i := 7) (d := (some 42)) (v := ?_) rfl rfl (by kernel_rfl) (by kernel_rfl) (by kernel_rfl) (fun _ _ _ h => h) (by rfl) hHeld ?_ ?_
        rotate_left
        focus (intro w hSw; (try dsimp only at hSw); go_simp; first | done | with_reducible rfl)
        try simp only [Act.put, List.setIfInBounds_toArray, List.set_cons_zero, List.set_cons_succ]
        refine held_two (i := 8) (j := 9) (by kernel_rfl) rfl rfl (by rfl) (by rfl) (fun K hK => ?_) (fun K hK => ?_)
        · go_simp
          skip
          refine hK.out _ _ (trivial) (fun hHeld => ?_)
          clear hK K
          try simp only [Act.put, List.setIfInBounds_toArray, List.set_cons_zero, List.set_cons_succ]
          refine held_call (i := 9) (by kernel_rfl) rfl (by rfl) (fun K hK => ?_)
          go_simp
          skip
          refine hK.out _ _ (trivial) (fun hHeld => ?_)
          clear hK K
          try simp only [Act.put, List.setIfInBounds_toArray, List.set_cons_zero, List.set_cons_succ]
          refine wpAnyH_done (by kernel_rfl) ?_ _
          gi_wp2_with fail
          have hL := (coll_leaf1 hl1 HBLK.out HO.out HES.out HST.out hsz' H03.out HRV.out HG.out.key HX34.out HWR.out HS5.out hby HOW.out).1
          rw [← HSN.out] at hL
          exact hL
        · go_simp
          skip
          refine hK.out _ _ (trivial) (fun hHeld => ?_)
          clear hK K
          try simp only [Act.put, List.setIfInBounds_toArray, List.set_cons_zero, List.set_cons_succ]
          refine held_call (i := 8) (by kernel_rfl) rfl (by rfl) (fun K hK => ?_)
          go_simp
          skip
          refine hK.out _ _ (trivial) (fun hHeld => ?_)
          clear hK K
          try simp only [Act.put, List.setIfInBounds_toArray, List.set_cons_zero, List.set_cons_succ]
          refine wpAnyH_done (by kernel_rfl) ?_ _
          gi_wp2_with fail
          have hL := (coll_leaf1 hl1 HBLK.out HO.out HES.out HST.out hsz' H03.out HRV.out HG.out.key HX34.out HWR.out HS5.out hby HOW.out).2
          rw [← HSN.out] at hL
          exact hL
    · go_simp
      skip
      refine hK.out _ _ (trivial) (fun hHeld => ?_)
      clear hK K
      try simp only [Act.put, List.setIfInBounds_toArray, List.set_cons_zero, List.set_cons_succ]
      refine held_two (i := 0) (j := 2) (by kernel_rfl) rfl rfl (by rfl) (by rfl) (fun K hK => ?_) (fun K hK => ?_)
      · go_simp
        skip
        refine hK.out _ _ (trivial) (fun hHeld => ?_)
        clear hK K
        try simp only [Act.put, List.setIfInBounds_toArray, List.set_cons_zero, List.set_cons_succ]
        refine held_on (i := 4) (d := (some 39)) (v := ?_) rfl rfl (by kernel_rfl) (by kernel_rfl) (by kernel_rfl) (fun _ _ _ h => h) (by rfl) hHeld ?_ ?_
        rotate_left
        focus (intro w hSw; (try dsimp only at hSw); go_simp; first | done | with_reducible rfl)
        try simp only [Act.put, List.setIfInBounds_toArray, List.set_cons_zero, List.set_cons_succ]
        refine held_call (i := 2) (by kernel_rfl) rfl (by rfl) (fun K hK => ?_)
        go_simp
        skip
        refine hK.out _ _ (trivial) (fun hHeld => ?_)
        clear hK K
        try simp only [Act.put, List.setIfInBounds_toArray, List.set_cons_zero, List.set_cons_succ]
        refine held_on (i := 3) (d := (some 38)) (v := ?_) rfl rfl (by kernel_rfl) (by kernel_rfl) (by kernel_rfl) (fun _ _ _ h => h) (by rfl) hHeld ?_ ?_
        rotate_left
        focus (intro w hSw; (try dsimp only at hSw); go_simp; first | done | with_reducible rfl)
        try simp only [Act.put, List.setIfInBounds_toArray, List.set_cons_zero, List.set_cons_succ]
        refine held_call (i := 6) (by kernel_rfl) rfl (by rfl) (fun K hK => ?_)
        skip
        refine wp_append_x _ (.tmp 35) (.tmp 40) 53 rfl (w4.heap.size + 2) 56 i0 _ 7 104 Try.underlying53 hi hz0 hz1' hz2 rfl (by decide) s ys.length (flatE ys) (by rfl) HOWN4.out (fun b => b = W3.heap.size) ⟨some ⟨W3.heap.size, 0, none⟩, 1⟩ 1 zeroL (by rfl) HZB.out hz1 h63 hby hbase ?_; intro s3 w5 hown5 hwr5 hs5; obtain ⟨g, cap, rfl, hbg, hnc, hcm, lg5, fg5, z0, z1, z2, z3, z4, z5, z6⟩ := row_zero hown5 (flatE_len ys); have h5 := hwr5.cell0 (o := 0) HX34.out (fun e => by have := (hrow0 _ e).1; omega) lg; have cB5 := h5.1.trans cg; have lB5 := h5.2; have fB5 := (hwr5.fz (w3.heap.size) 0).trans ((HX34.out.frozen (o := 0) lg).trans fg.out); have hgB : ¬ g = w3.heap.size := (by omega); have hBg : ¬ w3.heap.size = g := (by omega); have HOW := Lib.hid hown5; have HWR := Lib.hid hwr5; have HS5 := Lib.hid hs5; clear hown5 hwr5 hs5 h5
        refine hK.out _ _ (trivial) (fun hHeld => ?_)
        clear hK K
        try simp only [Act.put, List.setIfInBounds_toArray, List.set_cons_zero, List.set_cons_succ]
        refine held_on (i := 7) (d := (some 42)) (v := ?_) rfl rfl (by kernel_rfl) (by kernel_rfl) (by kernel_rfl) (fun _ _ _ h => h) (by rfl) hHeld ?_ ?_
        rotate_left
        focus (intro w hSw; (try dsimp only at hSw); go_simp; first | done | with_reducible rfl)
        try simp only [Act.put, List.setIfInBounds_toArray, List.set_cons_zero, List.set_cons_succ]
        refine held_two (i := 8) (j := 9) (by kernel_rfl) rfl rfl (by rfl) (by rfl) (fun K hK => ?_) (fun K hK => ?_)
        · go_simp
          skip
          refine hK.out _ _ (trivial) (fun hHeld => ?_)
          clear hK K
          try simp only [Act.put, List.setIfInBounds_toArray, List.set_cons_zero, List.set_cons_succ]
          refine held_call (i := 9) (by kernel_rfl) rfl (by rfl) (fun K hK => ?_)
          go_simp
          skip
          refine hK.out _ _ (trivial) (fun hHeld => ?_)
          clear hK K
          try simp only [Act.put, List.setIfInBounds_toArray, List.set_cons_zero, List.set_cons_succ]
          refine wpAnyH_done (by kernel_rfl) ?_ _
          gi_wp2_with fail
          have hL := (coll_leaf1 hl1 HBLK.out HO.out HES.out HST.out hsz' H03.out HRV.out HG.out.key HX34.out HWR.out HS5.out hby HOW.out).1
          rw [← HSN.out] at hL
          exact hL
        · go_simp
          skip
          refine hK.out _ _ (trivial) (fun hHeld => ?_)
          clear hK K
          try simp only [Act.put, List.setIfInBounds_toArray, List.set_cons_zero, List.set_cons_succ]
          refine held_call (i := 8) (by kernel_rfl) rfl (by rfl) (fun K hK => ?_)
          go_simp
          skip
          refine hK.out _ _ (trivial) (fun hHeld => ?_)
          clear hK K
          try simp only [Act.put, List.setIfInBounds_toArray, List.set_cons_zero, List.set_cons_succ]
          refine wpAnyH_done (by kernel_rfl) ?_ _
          gi_wp2_with fail
          have hL := (coll_leaf1 hl1 HBLK.out HO.out HES.out HST.out hsz' H03.out HRV.out HG.out.key HX34.out HWR.out HS5.out hby HOW.out).2
          rw [← HSN.out] at hL
          exact hL
      · go_simp
        skip
        refine hK.out _ _ (trivial) (fun hHeld => ?_)
        clear hK K
        try simp only [Act.put, List.setIfInBounds_toArray, List.set_cons_zero, List.set_cons_succ]
        refine held_on (i := 3) (d := (some 38)) (v := ?_) rfl rfl (by kernel_rfl) (by kernel_rfl) (by kernel_rfl) (fun _ _ _ h => h) (by rfl) hHeld ?_ ?_
        rotate_left
        focus (intro w hSw; (try dsimp only at hSw); go_simp; first | done | with_reducible rfl)
        try simp only [Act.put, List.setIfInBounds_toArray, List.set_cons_zero, List.set_cons_succ]
        refine held_call (i := 0) (by kernel_rfl) rfl (by rfl) (fun K hK => ?_)
        go_simp
        skip
        refine hK.out _ _ (trivial) (fun hHeld => ?_)
        clear hK K
        try simp only [Act.put, List.setIfInBounds_toArray, List.set_cons_zero, List.set_cons_succ]
        refine held_on (i := 4) (d := (some 39)) (v := ?_) rfl rfl (by kernel_rfl) (by kernel_rfl) (by kernel_rfl) (fun _ _ _ h => h) (by rfl) hHeld ?_ ?_
        rotate_left
        focus (intro w hSw; (try dsimp only at hSw); go_simp; first | done | with_reducible rfl)
        try simp only [Act.put, List.setIfInBounds_toArray, List.set_cons_zero, List.set_cons_succ]
        refine held_call (i := 6) (by kernel_rfl) rfl (by rfl) (fun K hK => ?_)
        skip
        refine wp_append_x _ (.tmp 35) (.tmp 40) 53 rfl (w4.heap.size + 2) 56 i0 _ 7 104 Try.underlying53 hi hz0 hz1' hz2 rfl (by decide) s ys.length (flatE ys) (by rfl) HOWN4.out (fun b => b = W3.heap.size) ⟨some ⟨W3.heap.size, 0, none⟩, 1⟩ 1 zeroL (by rfl) HZB.out hz1 h63 hby hbase ?_; intro s3 w5 hown5 hwr5 hs5; obtain ⟨g, cap, rfl, hbg, hnc, hcm, lg5, fg5, z0, z1, z2, z3, z4, z5, z6⟩ := row_zero hown5 (flatE_len ys); have h5 := hwr5.cell0 (o := 0) HX34.out (fun e => by have := (hrow0 _ e).1; omega) lg; have cB5 := h5.1.trans cg; have lB5 := h5.2; have fB5 := (hwr5.fz (w3.heap.size) 0).trans ((HX34.out.frozen (o := 0) lg).trans fg.out); have hgB : ¬ g = w3.heap.size := (by omega); have hBg : ¬ w3.heap.size = g := (by omega); have HOW := Lib.hid hown5; have HWR := Lib.hid hwr5; have HS5 := Lib.hid hs5; clear hown5 hwr5 hs5 h5
        refine hK.out _ _ (trivial) (fun hHeld => ?_)
        clear hK K
        try simp only [Act.put, List.setIfInBounds_toArray, List.set_cons_zero, List.set_cons_succ]
        refine held_on (i := 7) (d := (some 42)) (v := ?_) rfl rfl (by kernel_rfl) (by kernel_rfl) (by kernel_rfl) (fun _ _ _ h => h) (by rfl) hHeld ?_ ?_
        rotate_left
        focus (intro w hSw; (try dsimp only at hSw); go_simp; first | done | with_reducible rfl)
        try simp only [Act.put, List.setIfInBounds_toArray, List.set_cons_zero, List.set_cons_succ]
        refine held_two (i := 8) (j := 9) (by kernel_rfl) rfl rfl (by rfl) (by rfl) (fun K hK => ?_) (fun K hK => ?_)
        · go_simp
          skip
          refine hK.out _ _ (trivial) (fun hHeld => ?_)
          clear hK K
          try simp only [Act.put, List.setIfInBounds_toArray, List.set_cons_zero, List.set_cons_succ]
          refine held_call (i := 9) (by kernel_rfl) rfl (by rfl) (fun K hK => ?_)
          go_simp
          skip
          refine hK.out _ _ (trivial) (fun hHeld => ?_)
          clear hK K
          try simp only [Act.put, List.setIfInBounds_toArray, List.set_cons_zero, List.set_cons_succ]
          refine wpAnyH_done (by kernel_rfl) ?_ _
          gi_wp2_with fail
          have hL := (coll_leaf1 hl1 HBLK.out HO.out HES.out HST.out hsz' H03.out HRV.out HG.out.key HX34.out HWR.out HS5.out hby HOW.out).1
          rw [← HSN.out] at hL
          exact hL
        · go_simp
          skip
          refine hK.out _ _ (trivial) (fun hHeld => ?_)
          clear hK K
          try simp only [Act.put, List.setIfInBounds_toArray, List.set_cons_zero, List.set_cons_succ]
          refine held_call (i := 8) (by kernel_rfl) rfl (by rfl) (fun K hK => ?_)
          go_simp
          skip
          refine hK.out _ _ (trivial) (fun hHeld => ?_)
          clear hK K
          try simp only [Act.put, List.setIfInBounds_toArray, List.set_cons_zero, List.set_cons_succ]
          refine wpAnyH_done (by kernel_rfl) ?_ _
          gi_wp2_with fail
          have hL := (coll_leaf1 hl1 HBLK.out HO.out HES.out HST.out hsz' H03.out HRV.out HG.out.key HX34.out HWR.out HS5.out hby HOW.out).2
          rw [← HSN.out] at hL
          exact hL
  case stop =>
    rintro D c pre W hD hSp hX hDk
    exact hX.elim
  case done =>
    rintro D xs' C W hD hS ⟨⟨s', ys, rfl, hblk, ho, hes⟩, hst, hsz⟩ hDk
    have hzk : zs.map LE.k = (prefixE k es).map Prod.fst := by rw [← HZ8.out, List.map_map]; rfl
    have hye : ys.map LE.ent = zs.map LE.ent := by rw [hes, HZ8.out]; exact hS
    have hszW := hst.size
    have hbW2 : Below W2.heap.size W2 W := HB24.out.trans ⟨hst.os, hst.tape, hst.output, hst.size, fun b hb => hst.block b (by omega) (by omega)⟩
    have hgW : ES W (Lt W.heap.size) s' ys := ho.es.mono fun i hi => hi.2
    have hag3 : Agree (Lt w3.heap.size) w3 W := fun b hb => by
      have hb : b < w3.heap.size := hb
      have e1 : w4.heap[b]? = w3.heap[b]? := (HAG34.out b hb)
      exact (hst.block b (by omega) (by omega)).trans e1
    have hzW : ES W (Lt W.heap.size) s8 zs := (HS8.out.agree hag3).mono fun i hi => by have hi : i < w3.heap.size := hi; show i < W.heap.size; omega
    have hbt := hst.blk HBT4.out (by omega)
    have ct : W.cell? ⟨w1.heap.size, 0, none⟩ = some (.pointer p) := hbt.cell 0
    have hky := HKY.out W hbW2
    unfold KeysPost at hky
    rw [← hzk, List.length_map] at hky
    have hzl : zs.length ≤ 400 := by
      have := congrArg List.length HZ8.out
      rw [List.length_map] at this
      have := HLA.out
      omega
    have HKW := Lib.hid hky
    have HGW := Lib.hid hgW
    have HZW := Lib.hid hzW
    have HYE := Lib.hid hye
    have HST := Lib.hid hst
    have HDK := Lib.hid hDk
    have HDD := Lib.hid hD
    have HBW2 := Lib.hid hbW2
    have HBLK := Lib.hid hblk
    have hlW := hbt.lt
    clear hzk hye hgW hag3 hzW hbt hky hblk ho hes hst hDk hD hS hbW2
    gi_wp2_with fail
    refine ⟨trivial, ?_⟩
    refine (callsIn_wide.2 HKW.out).mono ?_
    rintro e w9 ⟨s9, rfl, hb9, hr9⟩
    have HB9 := Lib.hid hb9
    have HR9 := Lib.hid (show RS8 w9 s9 (zs.map LE.k) by rw [RS8, List.length_map]; exact hr9)
    have HZ9 := Lib.hid (Bw.es HZW.out hb9)
    have HG9 := Lib.hid (Bw.es HGW.out hb9)
    have HBK9 := Lib.hid (Bw.blk HBLK.out hb9)
    clear hb9 hr9 ct
    gi_wp2_with fail
    gi_loopw [14] (fun v wr => ∃ j : Nat, v = .int .i64 j ∧ j ≤ zs.length ∧ Ext w9 wr) (fun v _ => zs.length - (intOf v).toNat)
    case atStart => exact ⟨0, rfl, Nat.zero_le _, Ext.refl _⟩
    case round =>
      obtain ⟨j, rfl, hj, hX⟩ := hrel
      have HX := Lib.hid hX
      by_cases hlt : j < zs.length
      · have g1 : (j : Int) < (zs.length : Int) := by omega
        have g1' : decide ((j : Int) < (zs.length : Int)) = true := decide_eq_true g1
        obtain ⟨x, hxj⟩ : ∃ x, zs[j]? = some x := ⟨_, List.getElem?_eq_getElem hlt⟩
        obtain ⟨b, o, ha, hbl, hlc, hcm, ck⟩ := (RS8.ext HR9.out hX).at (i := j) (k := x.k) (by rw [List.getElem?_map, hxj]; rfl)
        obtain ⟨b', o', ha', hbl', hlc', hcm', ck', -, -, -⟩ := (HZ9.out.ext hX).at hxj
        rw [List.length_map] at hlc
        obtain ⟨sa, sc⟩ := s9
        obtain ⟨sa', sc'⟩ := s8
        dsimp only at ha hlc hcm ha' hlc' hcm'
        subst ha ha'
        have hbl' : b' < wr.heap.size := hbl'
        have hkk : (x.k.toList == x.k.toList) = true := by simp
        have hkn : (x.k.toList != x.k.toList) = false := by simp
        clear hX hxj
        gi_wp2_with fail
        refine wpIn_onlyN (wpIn_wide.2 ?_)
        go_quiet (fail)
        refine onlyN_mk ?_
        gi_wp2_with fail
        go_roundw
        case rel => exact ⟨j + 1, by go_num, hlt, HX.out.drewN _⟩
        case measure => simp [intOf]; omega
      · have g1 : ¬ (j : Int) < (zs.length : Int) := by omega
        have g1' : decide ((j : Int) < (zs.length : Int)) = false := decide_eq_false g1
        have hbk := HBK9.out.ext hX
        have cg : wr.cell? ⟨w3.heap.size, 0, none⟩ = some (.slice s'.a ys.length s'.c) := hbk.cell 0
        have lg := hbk.lt
        have hsm := sameEnt_any (HG9.out.ext hX) (HZ9.out.ext hX)
        rw [HYE.out, sameE_refl] at hsm
        have HSM := Lib.hid hsm
        clear hX hbk hsm
        gi_wp2_with fail
        refine ⟨trivial, ?_⟩
        refine (callsIn_wide.2 HSM.out).mono ?_
        rintro e wa ⟨rfl, hxa⟩
        have HXA := Lib.hid hxa
        clear hxa cg lg
        gi_wp2_with fail
        refine ⟨trivial, ?_⟩
        refine (callsIn_wide.2 (known08 _)).mono ?_
        rintro e wd ⟨rfl, hbd⟩
        have hbW := Bw.trans (Bw.ext (Bw.ext HB9.out HX.out) HXA.out) hbd
        have HB := Lib.hid hbW
        have hd := (hbW.block D (Array.getElem?_eq_some_iff.1 HDK.out).1).trans HDK.out
        have HD := Lib.hid hd
        clear hbd hbW hd
        gi_wp2_with fail
        have hk' : St (fun b => b = D) wd (wd.putObj D (.deferred none)) := St.put HD.out rfl rfl
        refine ⟨by simp, .inl ⟨_, _, rfl, run_takeDeferred HD.out, ?_⟩⟩
        refine ⟨.bool true, ?_, rfl, ?_⟩
        · simp [results, Try.f13, go_sem]
        · have hw2 : Below w.heap.size w W2 := (HX1.out.trans HX12.out).below
          have hbW : Below w.heap.size w W := hw2.trans (HBW2.out.mono hw2.size)
          exact (hbW.trans (HB.out.mono hbW.size)).trans ⟨hk'.os, hk'.tape, hk'.output, hk'.size, fun b hb => hk'.block b (by have := hbW.size; have := HB.out.size; omega) (by have := HDD.out; have := hw2.size; have := HB24.out.size; omega)⟩
theorem scanpre_w (s : Sl) (xs : List LE) (k : ByteArray) (w : World) (h : ES w (Lt w.heap.size) s xs) (hk : k.size ≤ maxLen) : Calls Try.prog 13 #[.slice s.a xs.length s.c, .string k] w fun e w' => e = .returned (.bool true) ∧ Below w.heap.size w w' := by
  by_cases hl : xs.length ≤ 400
  · exact scanpre_yes k hk h hl
  · exact scanpre_not k (by omega)
end Go.Proofs.Ytpapoalgocmlaaa
