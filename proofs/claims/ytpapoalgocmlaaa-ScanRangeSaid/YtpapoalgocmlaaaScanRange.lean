/- ScanRange: what an interval has, gone over to its end, left early, and gone over again. -/
import Derived.Test.YtpapoalgocmlaaaColl3
namespace Go.Proofs.Ytpapoalgocmlaaa
open Go.RowKit Go.Shelf
set_option linter.unusedVariables false
set_option linter.unusedSimpArgs false
attribute [local go_sem] Oper.semAt_some

set_option maxRecDepth 100000 in
theorem scanrange_not {w : World} {s : Sl} {n : Nat} (lo hi' : ByteArray) (op : Bool) (few : Int) (h : 400 < n) : Calls Try.prog 12 #[.slice s.a n s.c, .string lo, .string hi', .bool op, .int .i64 few] w fun e w' => e = .returned (.bool true) ∧ Below w.heap.size w w' := by
  have hx0 : Ext w (w.alloc (.cells #[.int .i64 few] 3)) := (Ext.refl w).alloc _ _
  have hm := made_not (w := w.alloc (.cells #[.int .i64 few] 3)) (s := s) h
  have HM := Lib.hid hm
  have HX0 := Lib.hid hx0
  clear hm hx0
  refine (callsIn_wide (n := 6)).1 ?_
  refine callsIn_of_wp_marks Try.func12 rfl trivial ?_ rfl
  simp only [Try.ntmps12, List.size_toArray, List.length_cons, List.length_nil, Nat.reduceAdd, Nat.reduceSub, Array.replicate_succ, Array.replicate_zero, List.push_toArray, List.append_toArray, List.nil_append, List.cons_append]
  gi_wp2_with fail
  refine ⟨trivial, ?_⟩
  refine (callsIn_wide.2 HM.out).mono ?_
  rintro e w1 ⟨rfl, hx1⟩
  have hx2 := (HX0.out.trans hx1).alloc #[.pointer none] 30
  have HX2 := Lib.hid hx2
  clear hx1 hx2
  gi_wp2_with fail
  refine ⟨trivial, ?_⟩
  refine (callsIn_wide.2 (known08 _)).mono ?_
  rintro e w2 ⟨rfl, hb2⟩
  have HB2 := Lib.hid hb2
  clear hb2
  gi_wp2_with fail
  refine ⟨.bool true, ?_, rfl, HX2.out.below.trans (HB2.out.mono HX2.out.size)⟩
  simp [results, Try.f12, go_sem]
/-- How the first range ends. -/
theorem range_ends {w4 W : World} {Bg : Nat} {all : List Ent} {few : Int} (h : (∃ (xs : List LE) (C : Nat → Prop), xs.map LE.ent = all ∧ Coll w4 Bg (xs.map LE.ent) C W ∧ (few < 0 ∨ (xs.length : Int) ≤ few)) ∨ (∃ pre : List LE, pre.map LE.ent <+: all ∧ ∃ pre' x C, pre = pre' ++ [x] ∧ (pre'.length : Int) = few ∧ Coll w4 Bg (pre'.map LE.ent) C W)) :
    ∃ m C, m ≤ all.length ∧ Coll w4 Bg (all.take m) C W ∧ (few < 0 ∨ (all.length : Int) ≤ few ∨ ((m : Int) = few ∧ m < all.length)) := by
  rcases h with ⟨xs, C, h1, h2, h3⟩ | ⟨pre, h1, pre', x, C, rfl, h2, h3⟩
  · have hl : xs.length = all.length := by rw [← h1, List.length_map]
    refine ⟨all.length, C, Nat.le_refl _, by rw [List.take_length, ← h1]; exact h2, ?_⟩
    rcases h3 with h | h
    · exact .inl h
    · exact .inr (.inl (by omega))
  · have hlen := h1.length_le
    simp only [List.map_append, List.length_append, List.length_map, List.map_cons, List.map_nil, List.length_cons, List.length_nil] at hlen
    have h4 : pre'.map LE.ent = all.take pre'.length := by
      have h5 : pre'.map LE.ent <+: all := (by rw [List.map_append]; exact List.prefix_append _ _ : pre'.map LE.ent <+: (pre' ++ [x]).map LE.ent).trans h1
      have := List.prefix_iff_eq_take.1 h5
      rwa [List.length_map] at this
    exact ⟨pre'.length, C, by omega, by rw [← h4]; exact h3, .inr (.inr ⟨h2, by omega⟩)⟩
set_option maxRecDepth 100000 in
set_option maxHeartbeats 16000000 in
theorem scanrange_yes {w : World} {s : Sl} {xs : List LE} (lo hi' : ByteArray) (op : Bool) (few : Int) (hf0 : -9223372036854775808 ≤ few) (hf1 : few ≤ 9223372036854775807) (h : ES w (Lt w.heap.size) s xs) (hl : xs.length ≤ 400) : Calls Try.prog 12 #[.slice s.a xs.length s.c, .string lo, .string hi', .bool op, .int .i64 few] w fun e w' => e = .returned (.bool true) ∧ Below w.heap.size w w' := by
  obtain ⟨i0, hi, hz0, hz1', hz2⟩ := info_parts Try.infoEntry
  have hx0 : Ext w (w.alloc (.cells #[.int .i64 few] 3)) := (Ext.refl w).alloc _ _
  have hm := made_any (h.ext hx0) hl
  have HM := Lib.hid hm
  have HX0 := Lib.hid hx0
  have HF0 := Lib.hid (Blk.new w 3 #[.int .i64 few])
  have HNI := Lib.hid (fun (W : World) B => eql_func_nil3 (P := Try.prog) W (t := 96) (.func 105) #[] (rangeL B) Try.underlying96)
  clear hm h hl hx0
  refine (callsIn_wide (n := 6)).1 ?_
  refine callsIn_of_wp_marks Try.func12 rfl trivial ?_ rfl
  simp only [Try.ntmps12, List.size_toArray, List.length_cons, List.length_nil, Nat.reduceAdd, Nat.reduceSub, Array.replicate_succ, Array.replicate_zero, List.push_toArray, List.append_toArray, List.nil_append, List.cons_append]
  gi_wp2_with fail
  generalize w.alloc (.cells #[.int .i64 few] 3) = w0 at *
  refine ⟨trivial, ?_⟩
  refine (callsIn_wide.2 HM.out).mono ?_
  rintro e w1 ⟨T, sm, ms, rfl, hmade, hx1⟩
  obtain ⟨p, hp⟩ := rootV_ptr T
  dsimp only [treeV]
  rw [hp]
  obtain ⟨es, hes⟩ : ∃ es, putAll [] (xs.map LE.ent) = es := ⟨_, rfl⟩
  rw [hes] at hmade
  obtain ⟨all, hall⟩ : ∃ all, rangeE lo hi' op es = all := ⟨_, rfl⟩
  have hx12 : Ext w1 (w1.alloc (.cells #[.pointer p] 30)) := (Ext.refl w1).alloc _ _
  have HMA := Lib.hid hmade
  have HX1 := Lib.hid (HX0.out.trans hx1)
  have HP := Lib.hid hp
  have HALL := Lib.hid hall
  have HLA := Lib.hid (show all.length ≤ 400 from Nat.le_trans (by rw [← hall]; exact List.length_filter_le _ _) hmade.few)
  have hpf := range8_any (hmade.ext hx12).list (by have := hmade.len; have := hmade.few; omega) lo hi' op
  rw [hmade.ms_, show es.filter (inI lo hi' op) = all from hall] at hpf
  have HPF := Lib.hid hpf
  have HPR := Lib.hid (show ∀ W, Calls Try.prog 53 #[.agg #[.pointer p], .string lo, .string hi', .bool op] W (RangePost T lo hi' op W) from fun W => by have := range_any W T lo hi' op; rwa [treeV, hp] at this)
  have HBT := Lib.hid (Blk.new w1 30 #[.pointer p])
  have HX12 := Lib.hid hx12
  have HF1 := Lib.hid ((HF0.out.ext hx1).ext hx12)
  have hs12 := hx12.size
  have hsw1 : w.heap.size < w1.heap.size := (HF0.out.ext hx1).lt
  clear HM hmade hx1 hes hp hx12 hpf hall
  gi_wp2_with fail
  generalize w1.alloc (.cells #[.pointer p] 30) = W2 at *
  refine ⟨trivial, ?_⟩
  refine (callsIn_wide.2 HPF.out).mono ?_
  rintro e w3 ⟨s8, zs, rfl, hz8, hs8, hx3⟩
  have hbt3 := HBT.out.ext hx3
  have ct : w3.cell? ⟨w1.heap.size, 0, none⟩ = some (.pointer p) := hbt3.cell 0
  have hltt := hbt3.lt
  have HX3 := Lib.hid hx3
  have HS8 := Lib.hid hs8
  have HZ8 := Lib.hid hz8
  have hs23 := hx3.size
  clear hx3 hs8 hbt3 hz8
  gi_wp2_with fail
  refine ⟨trivial, ?_⟩
  refine (callsIn_wide.2 (HPR.out w3)).mono ?_
  rintro e wg ⟨B, rfl, hx5, hrb5, hB⟩
  have HX5 := Lib.hid hx5
  have HRB5 := Lib.hid hrb5
  have n5 := HNI.out wg B
  have hs35 := hx5.size
  have hBl5 := hrb5.lt
  clear hx5 hrb5 ct
  gi_wp2_with fail
  generalize hW4 : World.alloc wg _ = w4
  have HX4 := Lib.hid (show Ext wg w4 by rw [← hW4]; exact (Ext.refl wg).alloc _ _)
  have HBG4 := Lib.hid (show Blk w4 wg.heap.size 53 #[.slice none 0 0] by rw [← hW4]; exact Blk.new wg _ _)
  have hs54 := HX4.out.size
  have hl1 : wg.heap.size < w4.heap.size := HBG4.out.lt
  have hE14 := ((HX12.out.trans HX3.out).trans HX5.out).trans HX4.out
  have HE14 := Lib.hid hE14
  have HE34 := Lib.hid (HX5.out.trans HX4.out)
  have HF4 := Lib.hid (((HF1.out.ext HX3.out).ext HX5.out).ext HX4.out)
  have HBT4 := Lib.hid (((HBT.out.ext HX3.out).ext HX5.out).ext HX4.out)
  have HRB4 := Lib.hid (HRB5.out.agree (HX4.out.agree fun b hb => hb) (fun b h1 h2 => by omega))
  have hseq := range_seq (F := Lt w1.heap.size) (HMA.out.at_.ext hE14) HMA.out.ok (by rw [HMA.out.ents]; have := HMA.out.few; omega) HRB4.out
  rw [HMA.out.ents, HALL.out] at hseq
  have HSQ := Lib.hid hseq
  clear hW4 hE14 hseq
  try gi_wp2_with fail
  refine wpIn_rangeC_block (gf := 105) (lb := rangeL B) rfl (enters_of Try.func105 (by kernel_rfl) rfl) HSQ.out (Agree.refl _) (Nat.le_refl _)
    (fun b hb => hb.elim (fun h => by have h : b < w1.heap.size := h; omega) (fun h => by omega)) (fun _ => rfl)
    (fun pre C W => Coll w4 wg.heap.size (pre.map LE.ent) C W ∧ (few < 0 ∨ (pre.length : Int) ≤ few)) (fun pre W => ∃ pre' x C, pre = pre' ++ [x] ∧ (pre'.length : Int) = few ∧ Coll w4 wg.heap.size (pre'.map LE.ent) C W) (fun b => b = wg.heap.size)
    (fun b hb => ⟨by omega, fun h => h.elim (fun h => by have h : b < w1.heap.size := h; omega) (fun h => by omega)⟩)
    (fun h k => ⟨h.1.turn hl1 k, h.2⟩) (fun h k => by obtain ⟨pre', x, C, h1, h2, h3⟩ := h; exact ⟨pre', x, C, h1, h2, h3.turn hl1 k⟩) (fun W hW hz => ⟨Coll.start HBG4.out hW hz, by by_cases h : few < 0; exact .inl h; exact .inr (by show ((0 : Nat) : Int) ≤ few; omega)⟩) ?round ?fin
  case round =>
    rintro pre C x W0' W1 hII hlt hsz hnL hx01 hG
    have HCO := Lib.hid hII.1
    obtain ⟨⟨⟨s, ys, rfl, hblk, ho, hes⟩, hst, hsz'⟩, hfw⟩ := hII
    obtain ⟨es', hes'⟩ : ∃ es', pre.map LE.ent = es' := ⟨_, rfl⟩
    have hyl : ys.length < 1000000 := by
      have h1 := (List.getElem?_eq_some_iff.1 hG.at_).1
      have h2 : ys.length = pre.length := by have := congrArg List.length hes; simpa using this
      have := HLA.out
      omega
    have hsn : (pre ++ [x]).map LE.ent = es' ++ [x.ent] := by rw [List.map_append, hes']; rfl
    rw [hes'] at hes
    have hb3 := Blk.new W1 49 (cells6 x)
    have hx3 : Ext W1 (W1.alloc (.cells (cells6 x) 49)) := (Ext.refl W1).alloc _ _
    have HB3 := Lib.hid hb3
    have HX3 := Lib.hid hx3
    have HBLK := Lib.hid hblk
    have HO := Lib.hid ho
    have HES := Lib.hid hes
    have HST := Lib.hid hst
    have HX01 := Lib.hid hx01
    have HG := Lib.hid hG
    have HSN := Lib.hid hsn
    clear hb3 hx3 hblk ho hes hst hx01 hG hnL hlt hes' hsn
    gi_wp2_with fail
    refine ⟨HX3.out, fun W3 k3 => ?_⟩
    have h03 := ((HX01.out.trans HX3.out).st _).trans k3
    have hs03 := h03.size
    have hs01 := HX01.out.size
    have hbv := k3.blk HB3.out (by omega)
    obtain ⟨c0, c1, c2, c3, c4, c5⟩ := hbv.c6
    have lv := hbv.lt
    have hgb := h03.blk HBLK.out (by omega)
    have cg : W3.cell? ⟨wg.heap.size, 0, none⟩ = some (.slice s.a ys.length s.c) := hgb.cell 0
    have fg := Lib.hid (hgb.frozen 0)
    have lg := hgb.lt
    have hrow0 : ∀ b, s.row = some b → w4.heap.size + 2 ≤ b ∧ b < W0'.heap.size := fun b hb => own_row HO.out.own hb
    have hx34 : Ext W3 (W3.drew.alloc (.cells zero7 56)) := ((Ext.refl W3).drew).alloc _ _
    have ho3 : OE W3 (w4.heap.size + 2) s ys := HO.out.agree' (h03.agree.mono fun i hi => ⟨hi.2, by have := hi.1; omega⟩) h03.size
    have HOWN4 := Lib.hid (ho3.ext hx34).own
    have HZB := Lib.hid (Rd.block (size := 7) (n := 1) (cs := zeroL) (Blk.new W3.drew 56 zero7) (by decide) rfl)
    have hrv : RV W3 (In W0'.heap.size W3.heap.size) x.v x.sl x.so := ((HG.out.val.agree (HX3.out.agree fun b hb => hb.2)).agree (k3.agree.mono fun i hi => ⟨Nat.lt_of_lt_of_le hi.2 HX3.out.size, by have := hi.1; omega⟩)).mono fun i hi => ⟨hi.1, Nat.lt_of_lt_of_le hi.2 (Nat.le_trans HX3.out.size k3.size)⟩
    have h63 : ys.length + 1 ≤ maxLen := by unfold maxLen; omega
    have hby : (ys.length + 1) * 104 ≤ 140737488355328 := by omega
    have hbase : w4.heap.size + 2 ≤ (W3.drew.alloc (.cells zero7 56)).heap.size := by rw [World.size_alloc, World.size_drew]; omega
    have hz1 : ∀ u ∈ zeroL, u.oneCell' = true := by intro u hu; simp only [zeroL, List.mem_cons, List.not_mem_nil, or_false] at hu; rcases hu with rfl | rfl | rfl | rfl | rfl | rfl | rfl <;> rfl
    have H03 := Lib.hid h03
    have HRV := Lib.hid hrv
    have HX34 := Lib.hid hx34
    have HGB := Lib.hid hgb
    have hne1 : ¬ wg.heap.size = W1.heap.size := by omega
    have hix : (ys.length : Int) < (ys.length : Int) + 1 := by omega
    have hsW1 : W0'.heap.size ≤ W1.heap.size := hs01
    have hfb := h03.blk (HST.out.blk HF4.out (by omega)) (by omega)
    have cfew : W3.cell? ⟨w.heap.size, 0, none⟩ = some (.int .i64 few) := hfb.cell 0
    have hypl : ys.length = pre.length := by
      have h1 := congrArg List.length HSN.out
      have h2 := congrArg List.length HES.out
      simp only [List.length_map, List.length_append, List.length_cons, List.length_nil] at h1 h2
      omega
    have HYPL := Lib.hid hypl
    have HCO3 := Lib.hid (HCO.out.turn hl1 h03)
    have HFW := Lib.hid hfw
    by_cases hfe : (ys.length : Int) = few
    · have hfe' : ((ys.length : Int) == few) = true := beq_iff_eq.2 hfe
      have HFE := Lib.hid hfe
      clear k3 h03 hbv hgb hx34 ho3 hrv hfb hypl hfe hfw
      gi_wp2_with fail
      exact ⟨St.refl _ _, rfl, pre, x, _, rfl, by rw [← HYPL.out]; exact HFE.out, HCO3.out⟩
    have hfe' : ((ys.length : Int) == few) = false := beq_eq_false_iff_ne.2 hfe
    have HFE := Lib.hid hfe
    clear hfb hypl hfe hfw
    clear k3 h03 hbv hgb hx34 ho3 hrv
    gi_wp2_with fail
    refine wpIn_region_round (S := (fun _ => True)) (by kernel_rfl) (by rintro ⟨a, w, h⟩; exact h) (by kernel_rfl) (trivial) (fun hHeld => ?_)
    refine held_on (i := 1) (d := (some 50)) (v := ?_) rfl rfl (by kernel_rfl) (by kernel_rfl) (by kernel_rfl) (fun _ _ _ h => h) (by rfl) hHeld ?_ ?_
    rotate_left
    focus (intro w hSw; (try dsimp only at hSw); go_simp; first | done | with_reducible rfl)
    try simp only [Act.put, List.setIfInBounds_toArray, List.set_cons_zero, List.set_cons_succ]
    refine held_three (i := 0) (j := 2) (k := 5) (by kernel_rfl) rfl rfl rfl (by rfl) (by rfl) (by rfl) (fun K hK => ?_) (fun K hK => ?_) (fun K hK => ?_)
    · go_simp
      skip
      refine hK.out _ _ (trivial) (fun hHeld => ?_)
      clear hK K
      try simp only [Act.put, List.setIfInBounds_toArray, List.set_cons_zero, List.set_cons_succ]
      refine held_on (i := 4) (d := (some 53)) (v := ?_) rfl rfl (by kernel_rfl) (by kernel_rfl) (by kernel_rfl) (fun _ _ _ h => h) (by rfl) hHeld ?_ ?_
      rotate_left
      focus (intro w hSw; (try dsimp only at hSw); go_simp; first | done | with_reducible rfl)
      try simp only [Act.put, List.setIfInBounds_toArray, List.set_cons_zero, List.set_cons_succ]
      refine held_two (i := 2) (j := 5) (by kernel_rfl) rfl rfl (by rfl) (by rfl) (fun K hK => ?_) (fun K hK => ?_)
      · go_simp
        skip
        refine hK.out _ _ (trivial) (fun hHeld => ?_)
        clear hK K
        try simp only [Act.put, List.setIfInBounds_toArray, List.set_cons_zero, List.set_cons_succ]
        refine held_on (i := 3) (d := (some 52)) (v := ?_) rfl rfl (by kernel_rfl) (by kernel_rfl) (by kernel_rfl) (fun _ _ _ h => h) (by rfl) hHeld ?_ ?_
        rotate_left
        focus (intro w hSw; (try dsimp only at hSw); go_simp; first | done | with_reducible rfl)
        try simp only [Act.put, List.setIfInBounds_toArray, List.set_cons_zero, List.set_cons_succ]
        refine held_call (i := 5) (by kernel_rfl) rfl (by rfl) (fun K hK => ?_)
        go_simp
        skip
        refine hK.out _ _ (trivial) (fun hHeld => ?_)
        clear hK K
        try simp only [Act.put, List.setIfInBounds_toArray, List.set_cons_zero, List.set_cons_succ]
        refine held_call (i := 6) (by kernel_rfl) rfl (by rfl) (fun K hK => ?_)
        skip
        refine wp_append_x _ (.tmp 49) (.tmp 54) 53 rfl (w4.heap.size + 2) 56 i0 _ 7 104 Try.underlying53 hi hz0 hz1' hz2 rfl (by decide) s ys.length (flatE ys) (by rfl) HOWN4.out (fun b => b = W3.heap.size) ⟨some ⟨W3.heap.size, 0, none⟩, 1⟩ 1 zeroL (by rfl) HZB.out hz1 h63 hby hbase ?_; intro s3 w5 hown5 hwr5 hs5; obtain ⟨g, cap, rfl, hbg, hnc, hcm, lg5, fg5, z0, z1, z2, z3, z4, z5, z6⟩ := row_zero hown5 (flatE_len ys); have h5 := hwr5.cell0 (o := 0) HX34.out (fun e => by have := (hrow0 _ e).1; omega) lg; have cB5 := h5.1.trans cg; have lB5 := h5.2; have fB5 := (hwr5.fz (wg.heap.size) 0).trans ((HX34.out.frozen (o := 0) lg).trans fg.out); have hgB : ¬ g = wg.heap.size := (by omega); have hBg : ¬ wg.heap.size = g := (by omega); have HOW := Lib.hid hown5; have HWR := Lib.hid hwr5; have HS5 := Lib.hid hs5; clear hown5 hwr5 hs5 h5
        refine hK.out _ _ (trivial) (fun hHeld => ?_)
        clear hK K
        try simp only [Act.put, List.setIfInBounds_toArray, List.set_cons_zero, List.set_cons_succ]
        refine held_on (i := 7) (d := (some 56)) (v := ?_) rfl rfl (by kernel_rfl) (by kernel_rfl) (by kernel_rfl) (fun _ _ _ h => h) (by rfl) hHeld ?_ ?_
        rotate_left
        focus (intro w hSw; (try dsimp only at hSw); go_simp; first | done | with_reducible rfl)
        try simp only [Act.put, List.setIfInBounds_toArray, List.set_cons_zero, List.set_cons_succ]
        refine held_two (i := 8) (j := 9) (by kernel_rfl) rfl rfl (by rfl) (by rfl) (fun K hK => ?_) (fun K hK => ?_)
        · go_simp
          skip
          refine hK.out _ _ (trivial) (fun hHeld => ?_)
          clear hK K
          try simp only [Act.put, List.setIfInBounds_toArray, List.set_cons_zero, List.set_cons_succ]
          refine held_call (i := 9) (by kernel_rfl) rfl (by rfl) (fun K hK => ?_)
          go_simp
          skip
          refine hK.out _ _ (trivial) (fun hHeld => ?_)
          clear hK K
          try simp only [Act.put, List.setIfInBounds_toArray, List.set_cons_zero, List.set_cons_succ]
          refine wpAnyH_done (by kernel_rfl) ?_ _
          gi_wp2_with fail
          have hL := (coll_leaf1 hl1 HBLK.out HO.out HES.out HST.out hsz' H03.out HRV.out HG.out.key HX34.out HWR.out HS5.out hby HOW.out).1
          rw [← HSN.out] at hL
          obtain ⟨C', e1, e2, e3, e4⟩ := hL
          refine ⟨C', ⟨e1, ?_⟩, e2, e3, e4⟩
          rcases HFW.out with hq | hq
          · exact .inl hq
          · refine .inr ?_
            have h1 := HFE.out
            have h2 := HYPL.out
            rw [List.length_append, List.length_cons, List.length_nil]
            omega
        · go_simp
          skip
          refine hK.out _ _ (trivial) (fun hHeld => ?_)
          clear hK K
          try simp only [Act.put, List.setIfInBounds_toArray, List.set_cons_zero, List.set_cons_succ]
          refine held_call (i := 8) (by kernel_rfl) rfl (by rfl) (fun K hK => ?_)
          go_simp
          skip
          refine hK.out _ _ (trivial) (fun hHeld => ?_)
          clear hK K
          try simp only [Act.put, List.setIfInBounds_toArray, List.set_cons_zero, List.set_cons_succ]
          refine wpAnyH_done (by kernel_rfl) ?_ _
          gi_wp2_with fail
          have hL := (coll_leaf1 hl1 HBLK.out HO.out HES.out HST.out hsz' H03.out HRV.out HG.out.key HX34.out HWR.out HS5.out hby HOW.out).2
          rw [← HSN.out] at hL
          obtain ⟨C', e1, e2, e3, e4⟩ := hL
          refine ⟨C', ⟨e1, ?_⟩, e2, e3, e4⟩
          rcases HFW.out with hq | hq
          · exact .inl hq
          · refine .inr ?_
            have h1 := HFE.out
            have h2 := HYPL.out
            rw [List.length_append, List.length_cons, List.length_nil]
            omega
      · go_simp
        skip
        refine hK.out _ _ (trivial) (fun hHeld => ?_)
        clear hK K
        try simp only [Act.put, List.setIfInBounds_toArray, List.set_cons_zero, List.set_cons_succ]
        refine held_call (i := 2) (by kernel_rfl) rfl (by rfl) (fun K hK => ?_)
        go_simp
        skip
        refine hK.out _ _ (trivial) (fun hHeld => ?_)
        clear hK K
        try simp only [Act.put, List.setIfInBounds_toArray, List.set_cons_zero, List.set_cons_succ]
        refine held_on (i := 3) (d := (some 52)) (v := ?_) rfl rfl (by kernel_rfl) (by kernel_rfl) (by kernel_rfl) (fun _ _ _ h => h) (by rfl) hHeld ?_ ?_
        rotate_left
        focus (intro w hSw; (try dsimp only at hSw); go_simp; first | done | with_reducible rfl)
        try simp only [Act.put, List.setIfInBounds_toArray, List.set_cons_zero, List.set_cons_succ]
        refine held_call (i := 6) (by kernel_rfl) rfl (by rfl) (fun K hK => ?_)
        skip
        refine wp_append_x _ (.tmp 49) (.tmp 54) 53 rfl (w4.heap.size + 2) 56 i0 _ 7 104 Try.underlying53 hi hz0 hz1' hz2 rfl (by decide) s ys.length (flatE ys) (by rfl) HOWN4.out (fun b => b = W3.heap.size) ⟨some ⟨W3.heap.size, 0, none⟩, 1⟩ 1 zeroL (by rfl) HZB.out hz1 h63 hby hbase ?_; intro s3 w5 hown5 hwr5 hs5; obtain ⟨g, cap, rfl, hbg, hnc, hcm, lg5, fg5, z0, z1, z2, z3, z4, z5, z6⟩ := row_zero hown5 (flatE_len ys); have h5 := hwr5.cell0 (o := 0) HX34.out (fun e => by have := (hrow0 _ e).1; omega) lg; have cB5 := h5.1.trans cg; have lB5 := h5.2; have fB5 := (hwr5.fz (wg.heap.size) 0).trans ((HX34.out.frozen (o := 0) lg).trans fg.out); have hgB : ¬ g = wg.heap.size := (by omega); have hBg : ¬ wg.heap.size = g := (by omega); have HOW := Lib.hid hown5; have HWR := Lib.hid hwr5; have HS5 := Lib.hid hs5; clear hown5 hwr5 hs5 h5
        refine hK.out _ _ (trivial) (fun hHeld => ?_)
        clear hK K
        try simp only [Act.put, List.setIfInBounds_toArray, List.set_cons_zero, List.set_cons_succ]
        refine held_on (i := 7) (d := (some 56)) (v := ?_) rfl rfl (by kernel_rfl) (by kernel_rfl) (by kernel_rfl) (fun _ _ _ h => h) (by rfl) hHeld ?_ ?_
        rotate_left
        focus (intro w hSw; (try dsimp only at hSw); go_simp; first | done | with_reducible rfl)
        try simp only [Act.put, List.setIfInBounds_toArray, List.set_cons_zero, List.set_cons_succ]
        refine held_two (i := 8) (j := 9) (by kernel_rfl) rfl rfl (by rfl) (by rfl) (fun K hK => ?_) (fun K hK => ?_)
        · go_simp
          skip
          refine hK.out _ _ (trivial) (fun hHeld => ?_)
          clear hK K
          try simp only [Act.put, List.setIfInBounds_toArray, List.set_cons_zero, List.set_cons_succ]
          refine held_call (i := 9) (by kernel_rfl) rfl (by rfl) (fun K hK => ?_)
          go_simp
          skip
          refine hK.out _ _ (trivial) (fun hHeld => ?_)
          clear hK K
          try simp only [Act.put, List.setIfInBounds_toArray, List.set_cons_zero, List.set_cons_succ]
          refine wpAnyH_done (by kernel_rfl) ?_ _
          gi_wp2_with fail
          have hL := (coll_leaf1 hl1 HBLK.out HO.out HES.out HST.out hsz' H03.out HRV.out HG.out.key HX34.out HWR.out HS5.out hby HOW.out).1
          rw [← HSN.out] at hL
          obtain ⟨C', e1, e2, e3, e4⟩ := hL
          refine ⟨C', ⟨e1, ?_⟩, e2, e3, e4⟩
          rcases HFW.out with hq | hq
          · exact .inl hq
          · refine .inr ?_
            have h1 := HFE.out
            have h2 := HYPL.out
            rw [List.length_append, List.length_cons, List.length_nil]
            omega
        · go_simp
          skip
          refine hK.out _ _ (trivial) (fun hHeld => ?_)
          clear hK K
          try simp only [Act.put, List.setIfInBounds_toArray, List.set_cons_zero, List.set_cons_succ]
          refine held_call (i := 8) (by kernel_rfl) rfl (by rfl) (fun K hK => ?_)
          go_simp
          skip
          refine hK.out _ _ (trivial) (fun hHeld => ?_)
          clear hK K
          try simp only [Act.put, List.setIfInBounds_toArray, List.set_cons_zero, List.set_cons_succ]
          refine wpAnyH_done (by kernel_rfl) ?_ _
          gi_wp2_with fail
          have hL := (coll_leaf1 hl1 HBLK.out HO.out HES.out HST.out hsz' H03.out HRV.out HG.out.key HX34.out HWR.out HS5.out hby HOW.out).2
          rw [← HSN.out] at hL
          obtain ⟨C', e1, e2, e3, e4⟩ := hL
          refine ⟨C', ⟨e1, ?_⟩, e2, e3, e4⟩
          rcases HFW.out with hq | hq
          · exact .inl hq
          · refine .inr ?_
            have h1 := HFE.out
            have h2 := HYPL.out
            rw [List.length_append, List.length_cons, List.length_nil]
            omega
    · go_simp
      skip
      refine hK.out _ _ (trivial) (fun hHeld => ?_)
      clear hK K
      try simp only [Act.put, List.setIfInBounds_toArray, List.set_cons_zero, List.set_cons_succ]
      refine held_on (i := 3) (d := (some 52)) (v := ?_) rfl rfl (by kernel_rfl) (by kernel_rfl) (by kernel_rfl) (fun _ _ _ h => h) (by rfl) hHeld ?_ ?_
      rotate_left
      focus (intro w hSw; (try dsimp only at hSw); go_simp; first | done | with_reducible rfl)
      try simp only [Act.put, List.setIfInBounds_toArray, List.set_cons_zero, List.set_cons_succ]
      refine held_two (i := 0) (j := 5) (by kernel_rfl) rfl rfl (by rfl) (by rfl) (fun K hK => ?_) (fun K hK => ?_)
      · go_simp
        skip
        refine hK.out _ _ (trivial) (fun hHeld => ?_)
        clear hK K
        try simp only [Act.put, List.setIfInBounds_toArray, List.set_cons_zero, List.set_cons_succ]
        refine held_on (i := 4) (d := (some 53)) (v := ?_) rfl rfl (by kernel_rfl) (by kernel_rfl) (by kernel_rfl) (fun _ _ _ h => h) (by rfl) hHeld ?_ ?_
        rotate_left
        focus (intro w hSw; (try dsimp only at hSw); go_simp; first | done | with_reducible rfl)
        try simp only [Act.put, List.setIfInBounds_toArray, List.set_cons_zero, List.set_cons_succ]
        refine held_call (i := 5) (by kernel_rfl) rfl (by rfl) (fun K hK => ?_)
        go_simp
        skip
        refine hK.out _ _ (trivial) (fun hHeld => ?_)
        clear hK K
        try simp only [Act.put, List.setIfInBounds_toArray, List.set_cons_zero, List.set_cons_succ]
        refine held_call (i := 6) (by kernel_rfl) rfl (by rfl) (fun K hK => ?_)
        skip
        refine wp_append_x _ (.tmp 49) (.tmp 54) 53 rfl (w4.heap.size + 2) 56 i0 _ 7 104 Try.underlying53 hi hz0 hz1' hz2 rfl (by decide) s ys.length (flatE ys) (by rfl) HOWN4.out (fun b => b = W3.heap.size) ⟨some ⟨W3.heap.size, 0, none⟩, 1⟩ 1 zeroL (by rfl) HZB.out hz1 h63 hby hbase ?_; intro s3 w5 hown5 hwr5 hs5; obtain ⟨g, cap, rfl, hbg, hnc, hcm, lg5, fg5, z0, z1, z2, z3, z4, z5, z6⟩ := row_zero hown5 (flatE_len ys); have h5 := hwr5.cell0 (o := 0) HX34.out (fun e => by have := (hrow0 _ e).1; omega) lg; have cB5 := h5.1.trans cg; have lB5 := h5.2; have fB5 := (hwr5.fz (wg.heap.size) 0).trans ((HX34.out.frozen (o := 0) lg).trans fg.out); have hgB : ¬ g = wg.heap.size := (by omega); have hBg : ¬ wg.heap.size = g := (by omega); have HOW := Lib.hid hown5; have HWR := Lib.hid hwr5; have HS5 := Lib.hid hs5; clear hown5 hwr5 hs5 h5
        refine hK.out _ _ (trivial) (fun hHeld => ?_)
        clear hK K
        try simp only [Act.put, List.setIfInBounds_toArray, List.set_cons_zero, List.set_cons_succ]
        refine held_on (i := 7) (d := (some 56)) (v := ?_) rfl rfl (by kernel_rfl) (by kernel_rfl) (by kernel_rfl) (fun _ _ _ h => h) (by rfl) hHeld ?_ ?_
        rotate_left
        focus (intro w hSw; (try dsimp only at hSw); go_simp; first | done | with_reducible rfl)
        try simp only [Act.put, List.setIfInBounds_toArray, List.set_cons_zero, List.set_cons_succ]
        refine held_two (i := 8) (j := 9) (by kernel_rfl) rfl rfl (by rfl) (by rfl) (fun K hK => ?_) (fun K hK => ?_)
        · go_simp
          skip
          refine hK.out _ _ (trivial) (fun hHeld => ?_)
          clear hK K
          try simp only [Act.put, List.setIfInBounds_toArray, List.set_cons_zero, List.set_cons_succ]
          refine held_call (i := 9) (by kernel_rfl) rfl (by rfl) (fun K hK => ?_)
          go_simp
          skip
          refine hK.out _ _ (trivial) (fun hHeld => ?_)
          clear hK K
          try simp only [Act.put, List.setIfInBounds_toArray, List.set_cons_zero, List.set_cons_succ]
          refine wpAnyH_done (by kernel_rfl) ?_ _
          gi_wp2_with fail
          have hL := (coll_leaf1 hl1 HBLK.out HO.out HES.out HST.out hsz' H03.out HRV.out HG.out.key HX34.out HWR.out HS5.out hby HOW.out).1
          rw [← HSN.out] at hL
          obtain ⟨C', e1, e2, e3, e4⟩ := hL
          refine ⟨C', ⟨e1, ?_⟩, e2, e3, e4⟩
          rcases HFW.out with hq | hq
          · exact .inl hq
          · refine .inr ?_
            have h1 := HFE.out
            have h2 := HYPL.out
            rw [List.length_append, List.length_cons, List.length_nil]
            omega
        · go_simp
          skip
          refine hK.out _ _ (trivial) (fun hHeld => ?_)
          clear hK K
          try simp only [Act.put, List.setIfInBounds_toArray, List.set_cons_zero, List.set_cons_succ]
          refine held_call (i := 8) (by kernel_rfl) rfl (by rfl) (fun K hK => ?_)
          go_simp
          skip
          refine hK.out _ _ (trivial) (fun hHeld => ?_)
          clear hK K
          try simp only [Act.put, List.setIfInBounds_toArray, List.set_cons_zero, List.set_cons_succ]
          refine wpAnyH_done (by kernel_rfl) ?_ _
          gi_wp2_with fail
          have hL := (coll_leaf1 hl1 HBLK.out HO.out HES.out HST.out hsz' H03.out HRV.out HG.out.key HX34.out HWR.out HS5.out hby HOW.out).2
          rw [← HSN.out] at hL
          obtain ⟨C', e1, e2, e3, e4⟩ := hL
          refine ⟨C', ⟨e1, ?_⟩, e2, e3, e4⟩
          rcases HFW.out with hq | hq
          · exact .inl hq
          · refine .inr ?_
            have h1 := HFE.out
            have h2 := HYPL.out
            rw [List.length_append, List.length_cons, List.length_nil]
            omega
      · go_simp
        skip
        refine hK.out _ _ (trivial) (fun hHeld => ?_)
        clear hK K
        try simp only [Act.put, List.setIfInBounds_toArray, List.set_cons_zero, List.set_cons_succ]
        refine held_call (i := 0) (by kernel_rfl) rfl (by rfl) (fun K hK => ?_)
        go_simp
        skip
        refine hK.out _ _ (trivial) (fun hHeld => ?_)
        clear hK K
        try simp only [Act.put, List.setIfInBounds_toArray, List.set_cons_zero, List.set_cons_succ]
        refine held_on (i := 4) (d := (some 53)) (v := ?_) rfl rfl (by kernel_rfl) (by kernel_rfl) (by kernel_rfl) (fun _ _ _ h => h) (by rfl) hHeld ?_ ?_
        rotate_left
        focus (intro w hSw; (try dsimp only at hSw); go_simp; first | done | with_reducible rfl)
        try simp only [Act.put, List.setIfInBounds_toArray, List.set_cons_zero, List.set_cons_succ]
        refine held_call (i := 6) (by kernel_rfl) rfl (by rfl) (fun K hK => ?_)
        skip
        refine wp_append_x _ (.tmp 49) (.tmp 54) 53 rfl (w4.heap.size + 2) 56 i0 _ 7 104 Try.underlying53 hi hz0 hz1' hz2 rfl (by decide) s ys.length (flatE ys) (by rfl) HOWN4.out (fun b => b = W3.heap.size) ⟨some ⟨W3.heap.size, 0, none⟩, 1⟩ 1 zeroL (by rfl) HZB.out hz1 h63 hby hbase ?_; intro s3 w5 hown5 hwr5 hs5; obtain ⟨g, cap, rfl, hbg, hnc, hcm, lg5, fg5, z0, z1, z2, z3, z4, z5, z6⟩ := row_zero hown5 (flatE_len ys); have h5 := hwr5.cell0 (o := 0) HX34.out (fun e => by have := (hrow0 _ e).1; omega) lg; have cB5 := h5.1.trans cg; have lB5 := h5.2; have fB5 := (hwr5.fz (wg.heap.size) 0).trans ((HX34.out.frozen (o := 0) lg).trans fg.out); have hgB : ¬ g = wg.heap.size := (by omega); have hBg : ¬ wg.heap.size = g := (by omega); have HOW := Lib.hid hown5; have HWR := Lib.hid hwr5; have HS5 := Lib.hid hs5; clear hown5 hwr5 hs5 h5
        refine hK.out _ _ (trivial) (fun hHeld => ?_)
        clear hK K
        try simp only [Act.put, List.setIfInBounds_toArray, List.set_cons_zero, List.set_cons_succ]
        refine held_on (i := 7) (d := (some 56)) (v := ?_) rfl rfl (by kernel_rfl) (by kernel_rfl) (by kernel_rfl) (fun _ _ _ h => h) (by rfl) hHeld ?_ ?_
        rotate_left
        focus (intro w hSw; (try dsimp only at hSw); go_simp; first | done | with_reducible rfl)
        try simp only [Act.put, List.setIfInBounds_toArray, List.set_cons_zero, List.set_cons_succ]
        refine held_two (i := 8) (j := 9) (by kernel_rfl) rfl rfl (by rfl) (by rfl) (fun K hK => ?_) (fun K hK => ?_)
        · go_simp
          skip
          refine hK.out _ _ (trivial) (fun hHeld => ?_)
          clear hK K
          try simp only [Act.put, List.setIfInBounds_toArray, List.set_cons_zero, List.set_cons_succ]
          refine held_call (i := 9) (by kernel_rfl) rfl (by rfl) (fun K hK => ?_)
          go_simp
          skip
          refine hK.out _ _ (trivial) (fun hHeld => ?_)
          clear hK K
          try simp only [Act.put, List.setIfInBounds_toArray, List.set_cons_zero, List.set_cons_succ]
          refine wpAnyH_done (by kernel_rfl) ?_ _
          gi_wp2_with fail
          have hL := (coll_leaf1 hl1 HBLK.out HO.out HES.out HST.out hsz' H03.out HRV.out HG.out.key HX34.out HWR.out HS5.out hby HOW.out).1
          rw [← HSN.out] at hL
          obtain ⟨C', e1, e2, e3, e4⟩ := hL
          refine ⟨C', ⟨e1, ?_⟩, e2, e3, e4⟩
          rcases HFW.out with hq | hq
          · exact .inl hq
          · refine .inr ?_
            have h1 := HFE.out
            have h2 := HYPL.out
            rw [List.length_append, List.length_cons, List.length_nil]
            omega
        · go_simp
          skip
          refine hK.out _ _ (trivial) (fun hHeld => ?_)
          clear hK K
          try simp only [Act.put, List.setIfInBounds_toArray, List.set_cons_zero, List.set_cons_succ]
          refine held_call (i := 8) (by kernel_rfl) rfl (by rfl) (fun K hK => ?_)
          go_simp
          skip
          refine hK.out _ _ (trivial) (fun hHeld => ?_)
          clear hK K
          try simp only [Act.put, List.setIfInBounds_toArray, List.set_cons_zero, List.set_cons_succ]
          refine wpAnyH_done (by kernel_rfl) ?_ _
          gi_wp2_with fail
          have hL := (coll_leaf1 hl1 HBLK.out HO.out HES.out HST.out hsz' H03.out HRV.out HG.out.key HX34.out HWR.out HS5.out hby HOW.out).2
          rw [← HSN.out] at hL
          obtain ⟨C', e1, e2, e3, e4⟩ := hL
          refine ⟨C', ⟨e1, ?_⟩, e2, e3, e4⟩
          rcases HFW.out with hq | hq
          · exact .inl hq
          · refine .inr ?_
            have h1 := HFE.out
            have h2 := HYPL.out
            rw [List.length_append, List.length_cons, List.length_nil]
            omega
    · go_simp
      skip
      refine hK.out _ _ (trivial) (fun hHeld => ?_)
      clear hK K
      try simp only [Act.put, List.setIfInBounds_toArray, List.set_cons_zero, List.set_cons_succ]
      refine held_two (i := 0) (j := 2) (by kernel_rfl) rfl rfl (by rfl) (by rfl) (fun K hK => ?_) (fun K hK => ?_)
      · go_simp
        skip
        refine hK.out _ _ (trivial) (fun hHeld => ?_)
        clear hK K
        try simp only [Act.put, List.setIfInBounds_toArray, List.set_cons_zero, List.set_cons_succ]
        refine held_on (i := 4) (d := (some 53)) (v := ?_) rfl rfl (by kernel_rfl) (by kernel_rfl) (by kernel_rfl) (fun _ _ _ h => h) (by rfl) hHeld ?_ ?_
        rotate_left
        focus (intro w hSw; (try dsimp only at hSw); go_simp; first | done | with_reducible rfl)
        try simp only [Act.put, List.setIfInBounds_toArray, List.set_cons_zero, List.set_cons_succ]
        refine held_call (i := 2) (by kernel_rfl) rfl (by rfl) (fun K hK => ?_)
        go_simp
        skip
        refine hK.out _ _ (trivial) (fun hHeld => ?_)
        clear hK K
        try simp only [Act.put, List.setIfInBounds_toArray, List.set_cons_zero, List.set_cons_succ]
        refine held_on (i := 3) (d := (some 52)) (v := ?_) rfl rfl (by kernel_rfl) (by kernel_rfl) (by kernel_rfl) (fun _ _ _ h => h) (by rfl) hHeld ?_ ?_
        rotate_left
        focus (intro w hSw; (try dsimp only at hSw); go_simp; first | done | with_reducible rfl)
        try simp only [Act.put, List.setIfInBounds_toArray, List.set_cons_zero, List.set_cons_succ]
        refine held_call (i := 6) (by kernel_rfl) rfl (by rfl) (fun K hK => ?_)
        skip
        refine wp_append_x _ (.tmp 49) (.tmp 54) 53 rfl (w4.heap.size + 2) 56 i0 _ 7 104 Try.underlying53 hi hz0 hz1' hz2 rfl (by decide) s ys.length (flatE ys) (by rfl) HOWN4.out (fun b => b = W3.heap.size) ⟨some ⟨W3.heap.size, 0, none⟩, 1⟩ 1 zeroL (by rfl) HZB.out hz1 h63 hby hbase ?_; intro s3 w5 hown5 hwr5 hs5; obtain ⟨g, cap, rfl, hbg, hnc, hcm, lg5, fg5, z0, z1, z2, z3, z4, z5, z6⟩ := row_zero hown5 (flatE_len ys); have h5 := hwr5.cell0 (o := 0) HX34.out (fun e => by have := (hrow0 _ e).1; omega) lg; have cB5 := h5.1.trans cg; have lB5 := h5.2; have fB5 := (hwr5.fz (wg.heap.size) 0).trans ((HX34.out.frozen (o := 0) lg).trans fg.out); have hgB : ¬ g = wg.heap.size := (by omega); have hBg : ¬ wg.heap.size = g := (by omega); have HOW := Lib.hid hown5; have HWR := Lib.hid hwr5; have HS5 := Lib.hid hs5; clear hown5 hwr5 hs5 h5
        refine hK.out _ _ (trivial) (fun hHeld => ?_)
        clear hK K
        try simp only [Act.put, List.setIfInBounds_toArray, List.set_cons_zero, List.set_cons_succ]
        refine held_on (i := 7) (d := (some 56)) (v := ?_) rfl rfl (by kernel_rfl) (by kernel_rfl) (by kernel_rfl) (fun _ _ _ h => h) (by rfl) hHeld ?_ ?_
        rotate_left
        focus (intro w hSw; (try dsimp only at hSw); go_simp; first | done | with_reducible rfl)
        try simp only [Act.put, List.setIfInBounds_toArray, List.set_cons_zero, List.set_cons_succ]
        refine held_two (i := 8) (j := 9) (by kernel_rfl) rfl rfl (by rfl) (by rfl) (fun K hK => ?_) (fun K hK => ?_)
        · go_simp
          skip
          refine hK.out _ _ (trivial) (fun hHeld => ?_)
          clear hK K
          try simp only [Act.put, List.setIfInBounds_toArray, List.set_cons_zero, List.set_cons_succ]
          refine held_call (i := 9) (by kernel_rfl) rfl (by rfl) (fun K hK => ?_)
          go_simp
          skip
          refine hK.out _ _ (trivial) (fun hHeld => ?_)
          clear hK K
          try simp only [Act.put, List.setIfInBounds_toArray, List.set_cons_zero, List.set_cons_succ]
          refine wpAnyH_done (by kernel_rfl) ?_ _
          gi_wp2_with fail
          have hL := (coll_leaf1 hl1 HBLK.out HO.out HES.out HST.out hsz' H03.out HRV.out HG.out.key HX34.out HWR.out HS5.out hby HOW.out).1
          rw [← HSN.out] at hL
          obtain ⟨C', e1, e2, e3, e4⟩ := hL
          refine ⟨C', ⟨e1, ?_⟩, e2, e3, e4⟩
          rcases HFW.out with hq | hq
          · exact .inl hq
          · refine .inr ?_
            have h1 := HFE.out
            have h2 := HYPL.out
            rw [List.length_append, List.length_cons, List.length_nil]
            omega
        · go_simp
          skip
          refine hK.out _ _ (trivial) (fun hHeld => ?_)
          clear hK K
          try simp only [Act.put, List.setIfInBounds_toArray, List.set_cons_zero, List.set_cons_succ]
          refine held_call (i := 8) (by kernel_rfl) rfl (by rfl) (fun K hK => ?_)
          go_simp
          skip
          refine hK.out _ _ (trivial) (fun hHeld => ?_)
          clear hK K
          try simp only [Act.put, List.setIfInBounds_toArray, List.set_cons_zero, List.set_cons_succ]
          refine wpAnyH_done (by kernel_rfl) ?_ _
          gi_wp2_with fail
          have hL := (coll_leaf1 hl1 HBLK.out HO.out HES.out HST.out hsz' H03.out HRV.out HG.out.key HX34.out HWR.out HS5.out hby HOW.out).2
          rw [← HSN.out] at hL
          obtain ⟨C', e1, e2, e3, e4⟩ := hL
          refine ⟨C', ⟨e1, ?_⟩, e2, e3, e4⟩
          rcases HFW.out with hq | hq
          · exact .inl hq
          · refine .inr ?_
            have h1 := HFE.out
            have h2 := HYPL.out
            rw [List.length_append, List.length_cons, List.length_nil]
            omega
      · go_simp
        skip
        refine hK.out _ _ (trivial) (fun hHeld => ?_)
        clear hK K
        try simp only [Act.put, List.setIfInBounds_toArray, List.set_cons_zero, List.set_cons_succ]
        refine held_on (i := 3) (d := (some 52)) (v := ?_) rfl rfl (by kernel_rfl) (by kernel_rfl) (by kernel_rfl) (fun _ _ _ h => h) (by rfl) hHeld ?_ ?_
        rotate_left
        focus (intro w hSw; (try dsimp only at hSw); go_simp; first | done | with_reducible rfl)
        try simp only [Act.put, List.setIfInBounds_toArray, List.set_cons_zero, List.set_cons_succ]
        refine held_call (i := 0) (by kernel_rfl) rfl (by rfl) (fun K hK => ?_)
        go_simp
        skip
        refine hK.out _ _ (trivial) (fun hHeld => ?_)
        clear hK K
        try simp only [Act.put, List.setIfInBounds_toArray, List.set_cons_zero, List.set_cons_succ]
        refine held_on (i := 4) (d := (some 53)) (v := ?_) rfl rfl (by kernel_rfl) (by kernel_rfl) (by kernel_rfl) (fun _ _ _ h => h) (by rfl) hHeld ?_ ?_
        rotate_left
        focus (intro w hSw; (try dsimp only at hSw); go_simp; first | done | with_reducible rfl)
        try simp only [Act.put, List.setIfInBounds_toArray, List.set_cons_zero, List.set_cons_succ]
        refine held_call (i := 6) (by kernel_rfl) rfl (by rfl) (fun K hK => ?_)
        skip
        refine wp_append_x _ (.tmp 49) (.tmp 54) 53 rfl (w4.heap.size + 2) 56 i0 _ 7 104 Try.underlying53 hi hz0 hz1' hz2 rfl (by decide) s ys.length (flatE ys) (by rfl) HOWN4.out (fun b => b = W3.heap.size) ⟨some ⟨W3.heap.size, 0, none⟩, 1⟩ 1 zeroL (by rfl) HZB.out hz1 h63 hby hbase ?_; intro s3 w5 hown5 hwr5 hs5; obtain ⟨g, cap, rfl, hbg, hnc, hcm, lg5, fg5, z0, z1, z2, z3, z4, z5, z6⟩ := row_zero hown5 (flatE_len ys); have h5 := hwr5.cell0 (o := 0) HX34.out (fun e => by have := (hrow0 _ e).1; omega) lg; have cB5 := h5.1.trans cg; have lB5 := h5.2; have fB5 := (hwr5.fz (wg.heap.size) 0).trans ((HX34.out.frozen (o := 0) lg).trans fg.out); have hgB : ¬ g = wg.heap.size := (by omega); have hBg : ¬ wg.heap.size = g := (by omega); have HOW := Lib.hid hown5; have HWR := Lib.hid hwr5; have HS5 := Lib.hid hs5; clear hown5 hwr5 hs5 h5
        refine hK.out _ _ (trivial) (fun hHeld => ?_)
        clear hK K
        try simp only [Act.put, List.setIfInBounds_toArray, List.set_cons_zero, List.set_cons_succ]
        refine held_on (i := 7) (d := (some 56)) (v := ?_) rfl rfl (by kernel_rfl) (by kernel_rfl) (by kernel_rfl) (fun _ _ _ h => h) (by rfl) hHeld ?_ ?_
        rotate_left
        focus (intro w hSw; (try dsimp only at hSw); go_simp; first | done | with_reducible rfl)
        try simp only [Act.put, List.setIfInBounds_toArray, List.set_cons_zero, List.set_cons_succ]
        refine held_two (i := 8) (j := 9) (by kernel_rfl) rfl rfl (by rfl) (by rfl) (fun K hK => ?_) (fun K hK => ?_)
        · go_simp
          skip
          refine hK.out _ _ (trivial) (fun hHeld => ?_)
          clear hK K
          try simp only [Act.put, List.setIfInBounds_toArray, List.set_cons_zero, List.set_cons_succ]
          refine held_call (i := 9) (by kernel_rfl) rfl (by rfl) (fun K hK => ?_)
          go_simp
          skip
          refine hK.out _ _ (trivial) (fun hHeld => ?_)
          clear hK K
          try simp only [Act.put, List.setIfInBounds_toArray, List.set_cons_zero, List.set_cons_succ]
          refine wpAnyH_done (by kernel_rfl) ?_ _
          gi_wp2_with fail
          have hL := (coll_leaf1 hl1 HBLK.out HO.out HES.out HST.out hsz' H03.out HRV.out HG.out.key HX34.out HWR.out HS5.out hby HOW.out).1
          rw [← HSN.out] at hL
          obtain ⟨C', e1, e2, e3, e4⟩ := hL
          refine ⟨C', ⟨e1, ?_⟩, e2, e3, e4⟩
          rcases HFW.out with hq | hq
          · exact .inl hq
          · refine .inr ?_
            have h1 := HFE.out
            have h2 := HYPL.out
            rw [List.length_append, List.length_cons, List.length_nil]
            omega
        · go_simp
          skip
          refine hK.out _ _ (trivial) (fun hHeld => ?_)
          clear hK K
          try simp only [Act.put, List.setIfInBounds_toArray, List.set_cons_zero, List.set_cons_succ]
          refine held_call (i := 8) (by kernel_rfl) rfl (by rfl) (fun K hK => ?_)
          go_simp
          skip
          refine hK.out _ _ (trivial) (fun hHeld => ?_)
          clear hK K
          try simp only [Act.put, List.setIfInBounds_toArray, List.set_cons_zero, List.set_cons_succ]
          refine wpAnyH_done (by kernel_rfl) ?_ _
          gi_wp2_with fail
          have hL := (coll_leaf1 hl1 HBLK.out HO.out HES.out HST.out hsz' H03.out HRV.out HG.out.key HX34.out HWR.out HS5.out hby HOW.out).2
          rw [← HSN.out] at hL
          obtain ⟨C', e1, e2, e3, e4⟩ := hL
          refine ⟨C', ⟨e1, ?_⟩, e2, e3, e4⟩
          rcases HFW.out with hq | hq
          · exact .inl hq
          · refine .inr ?_
            have h1 := HFE.out
            have h2 := HYPL.out
            rw [List.length_append, List.length_cons, List.length_nil]
            omega
  case fin =>
    intro D W hD hor hDk
    obtain ⟨m, C, hma, ⟨⟨s', ys, rfl, hblk, ho, hes⟩, hst, hsz⟩, hway⟩ := range_ends hor
    have hag3 : Agree (Lt w3.heap.size) w3 W := (HE34.out.agree fun b hb => hb).trans (hst.agree.mono fun b hb => ⟨by have hb : b < w3.heap.size := hb; omega, by have hb : b < w3.heap.size := hb; omega⟩)
    have hszW := hst.size
    have h34s := HE34.out.size
    have hgW : ES W (Lt W.heap.size) s' ys := ho.es.mono fun i hi => hi.2
    have hzW : ES W (Lt W.heap.size) s8 zs := (HS8.out.agree hag3).mono fun i hi => by have hi : i < w3.heap.size := hi; show i < W.heap.size; omega
    have hfb := hst.blk HF4.out (by omega)
    have hzl : zs.length = all.length := by rw [← HZ8.out, List.length_map]
    have HSS := Lib.hid (show ∀ W', Ext W W' → W'.cell? ⟨w.heap.size, 0, none⟩ = some (.int .i64 few) ∧ W'.cell? ⟨wg.heap.size, 0, none⟩ = some (.slice s'.a ys.length s'.c) from fun W' hb => ⟨(hfb.ext hb).cell 0, (hblk.ext hb).cell 0⟩)
    have HGW := Lib.hid hgW
    have HZW := Lib.hid hzW
    have HES := Lib.hid hes
    have HST := Lib.hid hst
    have HDK := Lib.hid hDk
    have HDD := Lib.hid hD
    have HBLK := Lib.hid hblk
    have HZL := Lib.hid hzl
    have HWY := Lib.hid hway
    have HMA' := Lib.hid hma
    clear hor hag3 hgW hzW hfb hzl hblk ho hes hst hDk hD hway hma
    gi_wp2_with fail
    refine wpIn_meet (fun W' => Ext W W') [57, 58, 59, 60, 61, 62, 63, 64, 65, 66, 67, 68, 69, 70, 71] (72, .bool false) ?_ ?_
    · rcases HWY.out with hw | hw | ⟨hw, hlt⟩
      · have g0 : ¬ 0 ≤ few := by omega
        have g0' : decide (0 ≤ few) = false := decide_eq_false g0
        refine wpIn_wide.2 ?_
        refine wp_region_held_drew (S := (fun w' => Ext W w')) (by kernel_rfl) (((Ext.refl W).drew)) (fun hHeld => ?_)
        refine held_on (i := 0) (d := (some 57)) (v := ?_) rfl rfl (by kernel_rfl) (by kernel_rfl) (by kernel_rfl) (fun _ _ _ h => h) (by rfl) hHeld ?_ ?_
        rotate_left
        focus (intro w hSw; have hSc := HSS.out w hSw; clear hSw; go_simp; first | done | with_reducible rfl)
        try simp only [Act.put, List.setIfInBounds_toArray, List.set_cons_zero, List.set_cons_succ]
        refine held_on (i := 1) (d := (some 58)) (v := ?_) rfl rfl (by kernel_rfl) (by kernel_rfl) (by kernel_rfl) (fun _ _ _ h => h) (by rfl) hHeld ?_ ?_
        rotate_left
        focus (intro w hSw; have hSc := HSS.out w hSw; clear hSw; go_simp; first | done | with_reducible rfl)
        try simp only [Act.put, List.setIfInBounds_toArray, List.set_cons_zero, List.set_cons_succ]
        refine held_on (i := 2) (d := (some 59)) (v := ?_) rfl rfl (by kernel_rfl) (by kernel_rfl) (by kernel_rfl) (fun _ _ _ h => h) (by rfl) hHeld ?_ ?_
        rotate_left
        focus (intro w hSw; have hSc := HSS.out w hSw; clear hSw; go_simp; first | done | with_reducible rfl)
        try simp only [Act.put, List.setIfInBounds_toArray, List.set_cons_zero, List.set_cons_succ]
        refine held_off (i := 3) (d := (some 60)) rfl rfl (by kernel_rfl) (by kernel_rfl) (by kernel_rfl) (fun _ _ _ h => h) (by rfl) hHeld ?_
        try simp only [Act.put, List.setIfInBounds_toArray, List.set_cons_zero, List.set_cons_succ]
        refine held_off (i := 4) (d := (some 61)) rfl rfl (by kernel_rfl) (by kernel_rfl) (by kernel_rfl) (fun _ _ _ h => h) (by rfl) hHeld ?_
        try simp only [Act.put, List.setIfInBounds_toArray, List.set_cons_zero, List.set_cons_succ]
        refine held_off (i := 5) (d := (some 62)) rfl rfl (by kernel_rfl) (by kernel_rfl) (by kernel_rfl) (fun _ _ _ h => h) (by rfl) hHeld ?_
        try simp only [Act.put, List.setIfInBounds_toArray, List.set_cons_zero, List.set_cons_succ]
        refine held_off (i := 6) (d := (some 63)) rfl rfl (by kernel_rfl) (by kernel_rfl) (by kernel_rfl) (fun _ _ _ h => h) (by rfl) hHeld ?_
        try simp only [Act.put, List.setIfInBounds_toArray, List.set_cons_zero, List.set_cons_succ]
        refine held_on (i := 7) (d := (some 64)) (v := ?_) rfl rfl (by kernel_rfl) (by kernel_rfl) (by kernel_rfl) (fun _ _ _ h => h) (by rfl) hHeld ?_ ?_
        rotate_left
        focus (intro w hSw; have hSc := HSS.out w hSw; clear hSw; go_simp; first | done | with_reducible rfl)
        try simp only [Act.put, List.setIfInBounds_toArray, List.set_cons_zero, List.set_cons_succ]
        refine held_on (i := 8) (d := (some 65)) (v := ?_) rfl rfl (by kernel_rfl) (by kernel_rfl) (by kernel_rfl) (fun _ _ _ h => h) (by rfl) hHeld ?_ ?_
        rotate_left
        focus (intro w hSw; have hSc := HSS.out w hSw; clear hSw; go_simp; first | done | with_reducible rfl)
        try simp only [Act.put, List.setIfInBounds_toArray, List.set_cons_zero, List.set_cons_succ]
        refine held_off (i := 9) (d := (some 66)) rfl rfl (by kernel_rfl) (by kernel_rfl) (by kernel_rfl) (fun _ _ _ h => h) (by rfl) hHeld ?_
        try simp only [Act.put, List.setIfInBounds_toArray, List.set_cons_zero, List.set_cons_succ]
        refine held_off (i := 10) (d := (some 67)) rfl rfl (by kernel_rfl) (by kernel_rfl) (by kernel_rfl) (fun _ _ _ h => h) (by rfl) hHeld ?_
        try simp only [Act.put, List.setIfInBounds_toArray, List.set_cons_zero, List.set_cons_succ]
        refine held_off (i := 11) (d := (some 68)) rfl rfl (by kernel_rfl) (by kernel_rfl) (by kernel_rfl) (fun _ _ _ h => h) (by rfl) hHeld ?_
        try simp only [Act.put, List.setIfInBounds_toArray, List.set_cons_zero, List.set_cons_succ]
        refine held_off (i := 12) (d := (some 69)) rfl rfl (by kernel_rfl) (by kernel_rfl) (by kernel_rfl) (fun _ _ _ h => h) (by rfl) hHeld ?_
        try simp only [Act.put, List.setIfInBounds_toArray, List.set_cons_zero, List.set_cons_succ]
        refine held_off (i := 13) (d := (some 70)) rfl rfl (by kernel_rfl) (by kernel_rfl) (by kernel_rfl) (fun _ _ _ h => h) (by rfl) hHeld ?_
        try simp only [Act.put, List.setIfInBounds_toArray, List.set_cons_zero, List.set_cons_succ]
        refine held_off (i := 14) (d := (some 71)) rfl rfl (by kernel_rfl) (by kernel_rfl) (by kernel_rfl) (fun _ _ _ h => h) (by rfl) hHeld ?_
        try simp only [Act.put, List.setIfInBounds_toArray, List.set_cons_zero, List.set_cons_succ]
        refine held_on (i := 15) (d := (some 72)) (v := ?_) rfl rfl (by kernel_rfl) (by kernel_rfl) (by kernel_rfl) (fun _ _ _ h => h) (by rfl) hHeld ?_ ?_
        rotate_left
        focus (intro w hSw; have hSc := HSS.out w hSw; clear hSw; go_simp; first | done | with_reducible rfl)
        try simp only [Act.put, List.setIfInBounds_toArray, List.set_cons_zero, List.set_cons_succ]
        refine wpAnyH_done (by kernel_rfl) ?_ _
        refine onlyN_mk ⟨hHeld, by kernel_rfl, ?_⟩
        simp only [putS, List.map_cons, List.map_nil, List.cons_append, List.nil_append, List.setIfInBounds_toArray, List.set_cons_zero, List.set_cons_succ]
        kernel_rfl
      · by_cases g : 0 ≤ few
        · have g0' : decide (0 ≤ few) = true := decide_eq_true g
          have g1 : ¬ few < (zs.length : Int) := by rw [HZL.out]; omega
          have g1' : decide (few < (zs.length : Int)) = false := decide_eq_false g1
          refine wpIn_wide.2 ?_
          refine wp_region_held_drew (S := (fun w' => Ext W w')) (by kernel_rfl) (((Ext.refl W).drew)) (fun hHeld => ?_)
          refine held_on (i := 0) (d := (some 57)) (v := ?_) rfl rfl (by kernel_rfl) (by kernel_rfl) (by kernel_rfl) (fun _ _ _ h => h) (by rfl) hHeld ?_ ?_
          rotate_left
          focus (intro w hSw; have hSc := HSS.out w hSw; clear hSw; go_simp; first | done | with_reducible rfl)
          try simp only [Act.put, List.setIfInBounds_toArray, List.set_cons_zero, List.set_cons_succ]
          refine held_on (i := 1) (d := (some 58)) (v := ?_) rfl rfl (by kernel_rfl) (by kernel_rfl) (by kernel_rfl) (fun _ _ _ h => h) (by rfl) hHeld ?_ ?_
          rotate_left
          focus (intro w hSw; have hSc := HSS.out w hSw; clear hSw; go_simp; first | done | with_reducible rfl)
          try simp only [Act.put, List.setIfInBounds_toArray, List.set_cons_zero, List.set_cons_succ]
          refine held_on (i := 2) (d := (some 59)) (v := ?_) rfl rfl (by kernel_rfl) (by kernel_rfl) (by kernel_rfl) (fun _ _ _ h => h) (by rfl) hHeld ?_ ?_
          rotate_left
          focus (intro w hSw; have hSc := HSS.out w hSw; clear hSw; go_simp; first | done | with_reducible rfl)
          try simp only [Act.put, List.setIfInBounds_toArray, List.set_cons_zero, List.set_cons_succ]
          refine held_on (i := 3) (d := (some 60)) (v := ?_) rfl rfl (by kernel_rfl) (by kernel_rfl) (by kernel_rfl) (fun _ _ _ h => h) (by rfl) hHeld ?_ ?_
          rotate_left
          focus (intro w hSw; have hSc := HSS.out w hSw; clear hSw; go_simp; first | done | with_reducible rfl)
          try simp only [Act.put, List.setIfInBounds_toArray, List.set_cons_zero, List.set_cons_succ]
          refine held_on (i := 4) (d := (some 61)) (v := ?_) rfl rfl (by kernel_rfl) (by kernel_rfl) (by kernel_rfl) (fun _ _ _ h => h) (by rfl) hHeld ?_ ?_
          rotate_left
          focus (intro w hSw; have hSc := HSS.out w hSw; clear hSw; go_simp; first | done | with_reducible rfl)
          try simp only [Act.put, List.setIfInBounds_toArray, List.set_cons_zero, List.set_cons_succ]
          refine held_on (i := 5) (d := (some 62)) (v := ?_) rfl rfl (by kernel_rfl) (by kernel_rfl) (by kernel_rfl) (fun _ _ _ h => h) (by rfl) hHeld ?_ ?_
          rotate_left
          focus (intro w hSw; have hSc := HSS.out w hSw; clear hSw; go_simp; first | done | with_reducible rfl)
          try simp only [Act.put, List.setIfInBounds_toArray, List.set_cons_zero, List.set_cons_succ]
          refine held_on (i := 6) (d := (some 63)) (v := ?_) rfl rfl (by kernel_rfl) (by kernel_rfl) (by kernel_rfl) (fun _ _ _ h => h) (by rfl) hHeld ?_ ?_
          rotate_left
          focus (intro w hSw; have hSc := HSS.out w hSw; clear hSw; go_simp; first | done | with_reducible rfl)
          try simp only [Act.put, List.setIfInBounds_toArray, List.set_cons_zero, List.set_cons_succ]
          refine held_on (i := 7) (d := (some 64)) (v := ?_) rfl rfl (by kernel_rfl) (by kernel_rfl) (by kernel_rfl) (fun _ _ _ h => h) (by rfl) hHeld ?_ ?_
          rotate_left
          focus (intro w hSw; have hSc := HSS.out w hSw; clear hSw; go_simp; first | done | with_reducible rfl)
          try simp only [Act.put, List.setIfInBounds_toArray, List.set_cons_zero, List.set_cons_succ]
          refine held_on (i := 8) (d := (some 65)) (v := ?_) rfl rfl (by kernel_rfl) (by kernel_rfl) (by kernel_rfl) (fun _ _ _ h => h) (by rfl) hHeld ?_ ?_
          rotate_left
          focus (intro w hSw; have hSc := HSS.out w hSw; clear hSw; go_simp; first | done | with_reducible rfl)
          try simp only [Act.put, List.setIfInBounds_toArray, List.set_cons_zero, List.set_cons_succ]
          refine held_off (i := 9) (d := (some 66)) rfl rfl (by kernel_rfl) (by kernel_rfl) (by kernel_rfl) (fun _ _ _ h => h) (by rfl) hHeld ?_
          try simp only [Act.put, List.setIfInBounds_toArray, List.set_cons_zero, List.set_cons_succ]
          refine held_off (i := 10) (d := (some 67)) rfl rfl (by kernel_rfl) (by kernel_rfl) (by kernel_rfl) (fun _ _ _ h => h) (by rfl) hHeld ?_
          try simp only [Act.put, List.setIfInBounds_toArray, List.set_cons_zero, List.set_cons_succ]
          refine held_off (i := 11) (d := (some 68)) rfl rfl (by kernel_rfl) (by kernel_rfl) (by kernel_rfl) (fun _ _ _ h => h) (by rfl) hHeld ?_
          try simp only [Act.put, List.setIfInBounds_toArray, List.set_cons_zero, List.set_cons_succ]
          refine held_off (i := 12) (d := (some 69)) rfl rfl (by kernel_rfl) (by kernel_rfl) (by kernel_rfl) (fun _ _ _ h => h) (by rfl) hHeld ?_
          try simp only [Act.put, List.setIfInBounds_toArray, List.set_cons_zero, List.set_cons_succ]
          refine held_off (i := 13) (d := (some 70)) rfl rfl (by kernel_rfl) (by kernel_rfl) (by kernel_rfl) (fun _ _ _ h => h) (by rfl) hHeld ?_
          try simp only [Act.put, List.setIfInBounds_toArray, List.set_cons_zero, List.set_cons_succ]
          refine held_off (i := 14) (d := (some 71)) rfl rfl (by kernel_rfl) (by kernel_rfl) (by kernel_rfl) (fun _ _ _ h => h) (by rfl) hHeld ?_
          try simp only [Act.put, List.setIfInBounds_toArray, List.set_cons_zero, List.set_cons_succ]
          refine held_on (i := 15) (d := (some 72)) (v := ?_) rfl rfl (by kernel_rfl) (by kernel_rfl) (by kernel_rfl) (fun _ _ _ h => h) (by rfl) hHeld ?_ ?_
          rotate_left
          focus (intro w hSw; have hSc := HSS.out w hSw; clear hSw; go_simp; first | done | with_reducible rfl)
          try simp only [Act.put, List.setIfInBounds_toArray, List.set_cons_zero, List.set_cons_succ]
          refine wpAnyH_done (by kernel_rfl) ?_ _
          refine onlyN_mk ⟨hHeld, by kernel_rfl, ?_⟩
          simp only [putS, List.map_cons, List.map_nil, List.cons_append, List.nil_append, List.setIfInBounds_toArray, List.set_cons_zero, List.set_cons_succ]
          kernel_rfl
        · have g0' : decide (0 ≤ few) = false := decide_eq_false g
          refine wpIn_wide.2 ?_
          refine wp_region_held_drew (S := (fun w' => Ext W w')) (by kernel_rfl) (((Ext.refl W).drew)) (fun hHeld => ?_)
          refine held_on (i := 0) (d := (some 57)) (v := ?_) rfl rfl (by kernel_rfl) (by kernel_rfl) (by kernel_rfl) (fun _ _ _ h => h) (by rfl) hHeld ?_ ?_
          rotate_left
          focus (intro w hSw; have hSc := HSS.out w hSw; clear hSw; go_simp; first | done | with_reducible rfl)
          try simp only [Act.put, List.setIfInBounds_toArray, List.set_cons_zero, List.set_cons_succ]
          refine held_on (i := 1) (d := (some 58)) (v := ?_) rfl rfl (by kernel_rfl) (by kernel_rfl) (by kernel_rfl) (fun _ _ _ h => h) (by rfl) hHeld ?_ ?_
          rotate_left
          focus (intro w hSw; have hSc := HSS.out w hSw; clear hSw; go_simp; first | done | with_reducible rfl)
          try simp only [Act.put, List.setIfInBounds_toArray, List.set_cons_zero, List.set_cons_succ]
          refine held_on (i := 2) (d := (some 59)) (v := ?_) rfl rfl (by kernel_rfl) (by kernel_rfl) (by kernel_rfl) (fun _ _ _ h => h) (by rfl) hHeld ?_ ?_
          rotate_left
          focus (intro w hSw; have hSc := HSS.out w hSw; clear hSw; go_simp; first | done | with_reducible rfl)
          try simp only [Act.put, List.setIfInBounds_toArray, List.set_cons_zero, List.set_cons_succ]
          refine held_off (i := 3) (d := (some 60)) rfl rfl (by kernel_rfl) (by kernel_rfl) (by kernel_rfl) (fun _ _ _ h => h) (by rfl) hHeld ?_
          try simp only [Act.put, List.setIfInBounds_toArray, List.set_cons_zero, List.set_cons_succ]
          refine held_off (i := 4) (d := (some 61)) rfl rfl (by kernel_rfl) (by kernel_rfl) (by kernel_rfl) (fun _ _ _ h => h) (by rfl) hHeld ?_
          try simp only [Act.put, List.setIfInBounds_toArray, List.set_cons_zero, List.set_cons_succ]
          refine held_off (i := 5) (d := (some 62)) rfl rfl (by kernel_rfl) (by kernel_rfl) (by kernel_rfl) (fun _ _ _ h => h) (by rfl) hHeld ?_
          try simp only [Act.put, List.setIfInBounds_toArray, List.set_cons_zero, List.set_cons_succ]
          refine held_off (i := 6) (d := (some 63)) rfl rfl (by kernel_rfl) (by kernel_rfl) (by kernel_rfl) (fun _ _ _ h => h) (by rfl) hHeld ?_
          try simp only [Act.put, List.setIfInBounds_toArray, List.set_cons_zero, List.set_cons_succ]
          refine held_on (i := 7) (d := (some 64)) (v := ?_) rfl rfl (by kernel_rfl) (by kernel_rfl) (by kernel_rfl) (fun _ _ _ h => h) (by rfl) hHeld ?_ ?_
          rotate_left
          focus (intro w hSw; have hSc := HSS.out w hSw; clear hSw; go_simp; first | done | with_reducible rfl)
          try simp only [Act.put, List.setIfInBounds_toArray, List.set_cons_zero, List.set_cons_succ]
          refine held_on (i := 8) (d := (some 65)) (v := ?_) rfl rfl (by kernel_rfl) (by kernel_rfl) (by kernel_rfl) (fun _ _ _ h => h) (by rfl) hHeld ?_ ?_
          rotate_left
          focus (intro w hSw; have hSc := HSS.out w hSw; clear hSw; go_simp; first | done | with_reducible rfl)
          try simp only [Act.put, List.setIfInBounds_toArray, List.set_cons_zero, List.set_cons_succ]
          refine held_off (i := 9) (d := (some 66)) rfl rfl (by kernel_rfl) (by kernel_rfl) (by kernel_rfl) (fun _ _ _ h => h) (by rfl) hHeld ?_
          try simp only [Act.put, List.setIfInBounds_toArray, List.set_cons_zero, List.set_cons_succ]
          refine held_off (i := 10) (d := (some 67)) rfl rfl (by kernel_rfl) (by kernel_rfl) (by kernel_rfl) (fun _ _ _ h => h) (by rfl) hHeld ?_
          try simp only [Act.put, List.setIfInBounds_toArray, List.set_cons_zero, List.set_cons_succ]
          refine held_off (i := 11) (d := (some 68)) rfl rfl (by kernel_rfl) (by kernel_rfl) (by kernel_rfl) (fun _ _ _ h => h) (by rfl) hHeld ?_
          try simp only [Act.put, List.setIfInBounds_toArray, List.set_cons_zero, List.set_cons_succ]
          refine held_off (i := 12) (d := (some 69)) rfl rfl (by kernel_rfl) (by kernel_rfl) (by kernel_rfl) (fun _ _ _ h => h) (by rfl) hHeld ?_
          try simp only [Act.put, List.setIfInBounds_toArray, List.set_cons_zero, List.set_cons_succ]
          refine held_off (i := 13) (d := (some 70)) rfl rfl (by kernel_rfl) (by kernel_rfl) (by kernel_rfl) (fun _ _ _ h => h) (by rfl) hHeld ?_
          try simp only [Act.put, List.setIfInBounds_toArray, List.set_cons_zero, List.set_cons_succ]
          refine held_off (i := 14) (d := (some 71)) rfl rfl (by kernel_rfl) (by kernel_rfl) (by kernel_rfl) (fun _ _ _ h => h) (by rfl) hHeld ?_
          try simp only [Act.put, List.setIfInBounds_toArray, List.set_cons_zero, List.set_cons_succ]
          refine held_on (i := 15) (d := (some 72)) (v := ?_) rfl rfl (by kernel_rfl) (by kernel_rfl) (by kernel_rfl) (fun _ _ _ h => h) (by rfl) hHeld ?_ ?_
          rotate_left
          focus (intro w hSw; have hSc := HSS.out w hSw; clear hSw; go_simp; first | done | with_reducible rfl)
          try simp only [Act.put, List.setIfInBounds_toArray, List.set_cons_zero, List.set_cons_succ]
          refine wpAnyH_done (by kernel_rfl) ?_ _
          refine onlyN_mk ⟨hHeld, by kernel_rfl, ?_⟩
          simp only [putS, List.map_cons, List.map_nil, List.cons_append, List.nil_append, List.setIfInBounds_toArray, List.set_cons_zero, List.set_cons_succ]
          kernel_rfl
      · subst hw
        have hmz : m < zs.length := by rw [HZL.out]; exact hlt
        have g0 : 0 ≤ (m : Int) := by omega
        have g0' : decide (0 ≤ (m : Int)) = true := decide_eq_true g0
        have g1 : (m : Int) < (zs.length : Int) := by omega
        have g1' : decide ((m : Int) < (zs.length : Int)) = true := decide_eq_true g1
        obtain ⟨x, hxj⟩ : ∃ x, zs[m]? = some x := ⟨_, List.getElem?_eq_getElem hmz⟩
        obtain ⟨b8, o8, ha, hbl, hlc, hcm, -⟩ := HZW.out.at hxj
        obtain ⟨sa, sc⟩ := s8
        dsimp only at ha hlc hcm
        subst ha
        have htk : (zs.take m).length = m := by rw [List.length_take]; omega
        have hent : (zs.take m).map LE.ent = ys.map LE.ent := by rw [List.map_take, HZ8.out]; exact HES.out.symm
        have hsm : ∀ W', Ext W W' → Calls Try.prog 54 #[.slice s'.a ys.length s'.c, .slice (some ⟨b8, o8, none⟩) m sc] W' fun e w' => e = .returned (.bool true) ∧ Ext W' w' := fun W' hb => by
          have := sameEnt_any (HGW.out.ext hb) ((HZW.out.pre (n := m) (by omega) (by omega)).ext hb)
          rw [hent, sameE_refl, htk] at this
          exact this
        have HSM := Lib.hid hsm
        have gc : (m : Int) ≤ (sc : Int) := by omega
        have gn : (m : Int).toNat = m := by omega
        clear hsm hent htk hxj
        refine wpIn_wide.2 ?_
        refine wp_region_held_drew (S := (fun w' => Ext W w')) (by kernel_rfl) (((Ext.refl W).drew)) (fun hHeld => ?_)
        refine held_on (i := 0) (d := (some 57)) (v := ?_) rfl rfl (by kernel_rfl) (by kernel_rfl) (by kernel_rfl) (fun _ _ _ h => h) (by rfl) hHeld ?_ ?_
        rotate_left
        focus (intro w hSw; have hSc := HSS.out w hSw; clear hSw; go_simp; first | done | with_reducible rfl)
        try simp only [Act.put, List.setIfInBounds_toArray, List.set_cons_zero, List.set_cons_succ]
        refine held_on (i := 1) (d := (some 58)) (v := ?_) rfl rfl (by kernel_rfl) (by kernel_rfl) (by kernel_rfl) (fun _ _ _ h => h) (by rfl) hHeld ?_ ?_
        rotate_left
        focus (intro w hSw; have hSc := HSS.out w hSw; clear hSw; go_simp; first | done | with_reducible rfl)
        try simp only [Act.put, List.setIfInBounds_toArray, List.set_cons_zero, List.set_cons_succ]
        refine held_on (i := 2) (d := (some 59)) (v := ?_) rfl rfl (by kernel_rfl) (by kernel_rfl) (by kernel_rfl) (fun _ _ _ h => h) (by rfl) hHeld ?_ ?_
        rotate_left
        focus (intro w hSw; have hSc := HSS.out w hSw; clear hSw; go_simp; first | done | with_reducible rfl)
        try simp only [Act.put, List.setIfInBounds_toArray, List.set_cons_zero, List.set_cons_succ]
        refine held_on (i := 3) (d := (some 60)) (v := ?_) rfl rfl (by kernel_rfl) (by kernel_rfl) (by kernel_rfl) (fun _ _ _ h => h) (by rfl) hHeld ?_ ?_
        rotate_left
        focus (intro w hSw; have hSc := HSS.out w hSw; clear hSw; go_simp; first | done | with_reducible rfl)
        try simp only [Act.put, List.setIfInBounds_toArray, List.set_cons_zero, List.set_cons_succ]
        refine held_on (i := 4) (d := (some 61)) (v := ?_) rfl rfl (by kernel_rfl) (by kernel_rfl) (by kernel_rfl) (fun _ _ _ h => h) (by rfl) hHeld ?_ ?_
        rotate_left
        focus (intro w hSw; have hSc := HSS.out w hSw; clear hSw; go_simp; first | done | with_reducible rfl)
        try simp only [Act.put, List.setIfInBounds_toArray, List.set_cons_zero, List.set_cons_succ]
        refine held_on (i := 5) (d := (some 62)) (v := ?_) rfl rfl (by kernel_rfl) (by kernel_rfl) (by kernel_rfl) (fun _ _ _ h => h) (by rfl) hHeld ?_ ?_
        rotate_left
        focus (intro w hSw; have hSc := HSS.out w hSw; clear hSw; go_simp; first | done | with_reducible rfl)
        try simp only [Act.put, List.setIfInBounds_toArray, List.set_cons_zero, List.set_cons_succ]
        refine held_on (i := 6) (d := (some 63)) (v := ?_) rfl rfl (by kernel_rfl) (by kernel_rfl) (by kernel_rfl) (fun _ _ _ h => h) (by rfl) hHeld ?_ ?_
        rotate_left
        focus (intro w hSw; have hSc := HSS.out w hSw; clear hSw; go_simp; first | done | with_reducible rfl)
        try simp only [Act.put, List.setIfInBounds_toArray, List.set_cons_zero, List.set_cons_succ]
        refine held_on (i := 7) (d := (some 64)) (v := ?_) rfl rfl (by kernel_rfl) (by kernel_rfl) (by kernel_rfl) (fun _ _ _ h => h) (by rfl) hHeld ?_ ?_
        rotate_left
        focus (intro w hSw; have hSc := HSS.out w hSw; clear hSw; go_simp; first | done | with_reducible rfl)
        try simp only [Act.put, List.setIfInBounds_toArray, List.set_cons_zero, List.set_cons_succ]
        refine held_on (i := 8) (d := (some 65)) (v := ?_) rfl rfl (by kernel_rfl) (by kernel_rfl) (by kernel_rfl) (fun _ _ _ h => h) (by rfl) hHeld ?_ ?_
        rotate_left
        focus (intro w hSw; have hSc := HSS.out w hSw; clear hSw; go_simp; first | done | with_reducible rfl)
        try simp only [Act.put, List.setIfInBounds_toArray, List.set_cons_zero, List.set_cons_succ]
        refine held_on (i := 9) (d := (some 66)) (v := ?_) rfl rfl (by kernel_rfl) (by kernel_rfl) (by kernel_rfl) (fun _ _ _ h => h) (by rfl) hHeld ?_ ?_
        rotate_left
        focus (intro w hSw; have hSc := HSS.out w hSw; clear hSw; go_simp; first | done | with_reducible rfl)
        try simp only [Act.put, List.setIfInBounds_toArray, List.set_cons_zero, List.set_cons_succ]
        refine held_on (i := 10) (d := (some 67)) (v := ?_) rfl rfl (by kernel_rfl) (by kernel_rfl) (by kernel_rfl) (fun _ _ _ h => h) (by rfl) hHeld ?_ ?_
        rotate_left
        focus (intro w hSw; have hSc := HSS.out w hSw; clear hSw; go_simp; first | done | with_reducible rfl)
        try simp only [Act.put, List.setIfInBounds_toArray, List.set_cons_zero, List.set_cons_succ]
        refine held_on (i := 11) (d := (some 68)) (v := ?_) rfl rfl (by kernel_rfl) (by kernel_rfl) (by kernel_rfl) (fun _ _ _ h => h) (by rfl) hHeld ?_ ?_
        rotate_left
        focus (intro w hSw; have hSc := HSS.out w hSw; clear hSw; go_simp; first | done | with_reducible rfl)
        try simp only [Act.put, List.setIfInBounds_toArray, List.set_cons_zero, List.set_cons_succ]
        refine held_on (i := 12) (d := (some 69)) (v := ?_) rfl rfl (by kernel_rfl) (by kernel_rfl) (by kernel_rfl) (fun _ _ _ h => h) (by rfl) hHeld ?_ ?_
        rotate_left
        focus (intro w hSw; have hSc := HSS.out w hSw; clear hSw; go_simp; first | done | with_reducible rfl)
        try simp only [Act.put, List.setIfInBounds_toArray, List.set_cons_zero, List.set_cons_succ]
        refine held_call (i := 13) (by kernel_rfl) rfl (by rfl) (fun K hK => ?_)
        go_simp
        (refine (HSM.out _ hHeld).mono ?_; rintro e wa ⟨rfl, hxa⟩)
        refine hK.out _ _ (hHeld.trans hxa) (fun hHeld => ?_)
        clear hK K
        try simp only [Act.put, List.setIfInBounds_toArray, List.set_cons_zero, List.set_cons_succ]
        refine held_on (i := 14) (d := (some 71)) (v := ?_) rfl rfl (by kernel_rfl) (by kernel_rfl) (by kernel_rfl) (fun _ _ _ h => h) (by rfl) hHeld ?_ ?_
        rotate_left
        focus (intro w hSw; have hSc := HSS.out w hSw; clear hSw; go_simp; first | done | with_reducible rfl)
        try simp only [Act.put, List.setIfInBounds_toArray, List.set_cons_zero, List.set_cons_succ]
        refine held_on (i := 15) (d := (some 72)) (v := ?_) rfl rfl (by kernel_rfl) (by kernel_rfl) (by kernel_rfl) (fun _ _ _ h => h) (by rfl) hHeld ?_ ?_
        rotate_left
        focus (intro w hSw; have hSc := HSS.out w hSw; clear hSw; go_simp; first | done | with_reducible rfl)
        try simp only [Act.put, List.setIfInBounds_toArray, List.set_cons_zero, List.set_cons_succ]
        refine wpAnyH_done (by kernel_rfl) ?_ _
        refine onlyN_mk ⟨hHeld, by kernel_rfl, ?_⟩
        simp only [putS, List.map_cons, List.map_nil, List.cons_append, List.nil_append, List.setIfInBounds_toArray, List.set_cons_zero, List.set_cons_succ]
        kernel_rfl
    · intro W5 vs hE5
      simp only [putS, List.map_cons, List.map_nil, List.cons_append, List.nil_append, List.setIfInBounds_toArray, List.set_cons_zero, List.set_cons_succ]
      have hbk := HBLK.out.ext hE5
      have cg : W5.cell? ⟨wg.heap.size, 0, none⟩ = some (.slice s'.a ys.length s'.c) := hbk.cell 0
      have fg := hbk.frozen 0
      have lg := hbk.lt
      have HE5 := Lib.hid hE5
      have HBK := Lib.hid hbk
      have hs5 := hE5.size
      clear hE5 hbk
      try gi_wp2_with fail
      generalize hset : W5.setCell ⟨wg.heap.size, 0, none⟩ _ = W6
      have hs6 : St (fun b => b = wg.heap.size) W5 W6 := by rw [← hset]; exact (St.refl (fun b => b = wg.heap.size) W5).set (p := ⟨wg.heap.size, 0, none⟩) (.inr rfl) _
      have HB6 := Lib.hid (show Blk W6 wg.heap.size 53 #[.slice none 0 0] by rw [← hset]; exact HBK.out.set_ 0 _)
      have h46 : St (fun b => b = wg.heap.size) w4 W6 := (HST.out.trans (HE5.out.st _)).trans hs6
      have hag16 : Agree (Lt w1.heap.size) w1 W6 := (HE14.out.agree fun b hb => hb).trans (h46.agree.mono fun b hb => ⟨by have hb : b < w1.heap.size := hb; omega, by have hb : b < w1.heap.size := hb; omega⟩)
      have hs46 := h46.size
      have htW : TreeAt (Lt w1.heap.size) T W6 := ⟨HMA.out.tree.agree hag16, fun b hb => by have hb : b < w1.heap.size := hb; omega⟩
      have HRB6 := Lib.hid (HRB4.out.agree h46.agree (fun b h1 h2 => ⟨by omega, by omega⟩))
      have hseq := range_seq (F := Lt w1.heap.size) htW HMA.out.ok (by rw [HMA.out.ents]; have := HMA.out.few; omega) HRB6.out
      rw [HMA.out.ents, HALL.out] at hseq
      have HSQ := Lib.hid hseq
      have HS6 := Lib.hid hs6
      have H46 := Lib.hid h46
      have hs56 := hs6.size
      have hl1 : wg.heap.size < W6.heap.size := HB6.out.lt
      clear hset hs6 h46 hag16 htW hseq cg fg lg
      try gi_wp2_with fail
      refine wpIn_rangeC (gf := 105) (lb := rangeL B) rfl (enters_of Try.func105 (by kernel_rfl) rfl) HSQ.out (Agree.refl _) (Nat.le_refl _)
        (fun b hb => hb.elim (fun h => by have h : b < w1.heap.size := h; omega) (fun h => by omega)) (fun _ => rfl)
        (fun pre C W => Coll W6 wg.heap.size (pre.map LE.ent) C W) (fun _ _ _ => False) (fun b => b = wg.heap.size)
        (fun b hb => ⟨by omega, fun h => h.elim (fun h => by have h : b < w1.heap.size := h; omega) (fun h => by omega)⟩)
        (fun h k => h.turn hl1 k) (fun h k => h) (fun W hW hz => Coll.start HB6.out hW hz) ?roundx ?donex ?stopx
      case stopx =>
        rintro D c pre W hD hSp hX hDk
        exact hX.elim
      case roundx =>
        rintro pre C x W0' W1 hII hlt hsz hnL hx01 hG
        obtain ⟨⟨s, ys, rfl, hblk, ho, hes⟩, hst, hsz'⟩ := hII
        obtain ⟨es', hes'⟩ : ∃ es', pre.map LE.ent = es' := ⟨_, rfl⟩
        have hyl : ys.length < 1000000 := by
          have h1 := (List.getElem?_eq_some_iff.1 hG.at_).1
          have h2 : ys.length = pre.length := by have := congrArg List.length hes; simpa using this
          have := HLA.out
          omega
        have hsn : (pre ++ [x]).map LE.ent = es' ++ [x.ent] := by rw [List.map_append, hes']; rfl
        rw [hes'] at hes
        have hb3 := Blk.new W1 49 (cells6 x)
        have hx3 : Ext W1 (W1.alloc (.cells (cells6 x) 49)) := (Ext.refl W1).alloc _ _
        have HB3 := Lib.hid hb3
        have HX3 := Lib.hid hx3
        have HBLK := Lib.hid hblk
        have HO := Lib.hid ho
        have HES := Lib.hid hes
        have HST := Lib.hid hst
        have HX01 := Lib.hid hx01
        have HG := Lib.hid hG
        have HSN := Lib.hid hsn
        clear hb3 hx3 hblk ho hes hst hx01 hG hnL hlt hes' hsn
        gi_wp2_with fail
        refine ⟨HX3.out, fun W3 k3 => ?_⟩
        have h03 := ((HX01.out.trans HX3.out).st _).trans k3
        have hs03 := h03.size
        have hs01 := HX01.out.size
        have hbv := k3.blk HB3.out (by omega)
        obtain ⟨c0, c1, c2, c3, c4, c5⟩ := hbv.c6
        have lv := hbv.lt
        have hgb := h03.blk HBLK.out (by omega)
        have cg : W3.cell? ⟨wg.heap.size, 0, none⟩ = some (.slice s.a ys.length s.c) := hgb.cell 0
        have fg := Lib.hid (hgb.frozen 0)
        have lg := hgb.lt
        have hrow0 : ∀ b, s.row = some b → W6.heap.size + 2 ≤ b ∧ b < W0'.heap.size := fun b hb => own_row HO.out.own hb
        have hx34 : Ext W3 (W3.drew.alloc (.cells zero7 56)) := ((Ext.refl W3).drew).alloc _ _
        have ho3 : OE W3 (W6.heap.size + 2) s ys := HO.out.agree' (h03.agree.mono fun i hi => ⟨hi.2, by have := hi.1; omega⟩) h03.size
        have HOWN4 := Lib.hid (ho3.ext hx34).own
        have HZB := Lib.hid (Rd.block (size := 7) (n := 1) (cs := zeroL) (Blk.new W3.drew 56 zero7) (by decide) rfl)
        have hrv : RV W3 (In W0'.heap.size W3.heap.size) x.v x.sl x.so := ((HG.out.val.agree (HX3.out.agree fun b hb => hb.2)).agree (k3.agree.mono fun i hi => ⟨Nat.lt_of_lt_of_le hi.2 HX3.out.size, by have := hi.1; omega⟩)).mono fun i hi => ⟨hi.1, Nat.lt_of_lt_of_le hi.2 (Nat.le_trans HX3.out.size k3.size)⟩
        have h63 : ys.length + 1 ≤ maxLen := by unfold maxLen; omega
        have hby : (ys.length + 1) * 104 ≤ 140737488355328 := by omega
        have hbase : W6.heap.size + 2 ≤ (W3.drew.alloc (.cells zero7 56)).heap.size := by rw [World.size_alloc, World.size_drew]; omega
        have hz1 : ∀ u ∈ zeroL, u.oneCell' = true := by intro u hu; simp only [zeroL, List.mem_cons, List.not_mem_nil, or_false] at hu; rcases hu with rfl | rfl | rfl | rfl | rfl | rfl | rfl <;> rfl
        have H03 := Lib.hid h03
        have HRV := Lib.hid hrv
        have HX34 := Lib.hid hx34
        have HGB := Lib.hid hgb
        have hne1 : ¬ wg.heap.size = W1.heap.size := by omega
        have hix : (ys.length : Int) < (ys.length : Int) + 1 := by omega
        have hsW1 : W0'.heap.size ≤ W1.heap.size := hs01
        clear k3 h03 hbv hgb hx34 ho3 hrv
        gi_wp2_with fail
        refine wpIn_region_round (S := (fun _ => True)) (by kernel_rfl) (by rintro ⟨a, w, h⟩; exact h) (by kernel_rfl) (trivial) (fun hHeld => ?_)
        refine held_on (i := 1) (d := (some 77)) (v := ?_) rfl rfl (by kernel_rfl) (by kernel_rfl) (by kernel_rfl) (fun _ _ _ h => h) (by rfl) hHeld ?_ ?_
        rotate_left
        focus (intro w hSw; (try dsimp only at hSw); go_simp; first | done | with_reducible rfl)
        try simp only [Act.put, List.setIfInBounds_toArray, List.set_cons_zero, List.set_cons_succ]
        refine held_three (i := 0) (j := 2) (k := 5) (by kernel_rfl) rfl rfl rfl (by rfl) (by rfl) (by rfl) (fun K hK => ?_) (fun K hK => ?_) (fun K hK => ?_)
        · go_simp
          skip
          refine hK.out _ _ (trivial) (fun hHeld => ?_)
          clear hK K
          try simp only [Act.put, List.setIfInBounds_toArray, List.set_cons_zero, List.set_cons_succ]
          refine held_on (i := 4) (d := (some 80)) (v := ?_) rfl rfl (by kernel_rfl) (by kernel_rfl) (by kernel_rfl) (fun _ _ _ h => h) (by rfl) hHeld ?_ ?_
          rotate_left
          focus (intro w hSw; (try dsimp only at hSw); go_simp; first | done | with_reducible rfl)
          try simp only [Act.put, List.setIfInBounds_toArray, List.set_cons_zero, List.set_cons_succ]
          refine held_two (i := 2) (j := 5) (by kernel_rfl) rfl rfl (by rfl) (by rfl) (fun K hK => ?_) (fun K hK => ?_)
          · go_simp
            skip
            refine hK.out _ _ (trivial) (fun hHeld => ?_)
            clear hK K
            try simp only [Act.put, List.setIfInBounds_toArray, List.set_cons_zero, List.set_cons_succ]
            refine held_on (i := 3) (d := (some 79)) (v := ?_) rfl rfl (by kernel_rfl) (by kernel_rfl) (by kernel_rfl) (fun _ _ _ h => h) (by rfl) hHeld ?_ ?_
            rotate_left
            focus (intro w hSw; (try dsimp only at hSw); go_simp; first | done | with_reducible rfl)
            try simp only [Act.put, List.setIfInBounds_toArray, List.set_cons_zero, List.set_cons_succ]
            refine held_call (i := 5) (by kernel_rfl) rfl (by rfl) (fun K hK => ?_)
            go_simp
            skip
            refine hK.out _ _ (trivial) (fun hHeld => ?_)
            clear hK K
            try simp only [Act.put, List.setIfInBounds_toArray, List.set_cons_zero, List.set_cons_succ]
            refine held_call (i := 6) (by kernel_rfl) rfl (by rfl) (fun K hK => ?_)
            skip
            refine wp_append_x _ (.tmp 76) (.tmp 81) 53 rfl (W6.heap.size + 2) 56 i0 _ 7 104 Try.underlying53 hi hz0 hz1' hz2 rfl (by decide) s ys.length (flatE ys) (by rfl) HOWN4.out (fun b => b = W3.heap.size) ⟨some ⟨W3.heap.size, 0, none⟩, 1⟩ 1 zeroL (by rfl) HZB.out hz1 h63 hby hbase ?_; intro s3 w5 hown5 hwr5 hs5; obtain ⟨g, cap, rfl, hbg, hnc, hcm, lg5, fg5, z0, z1, z2, z3, z4, z5, z6⟩ := row_zero hown5 (flatE_len ys); have h5 := hwr5.cell0 (o := 0) HX34.out (fun e => by have := (hrow0 _ e).1; omega) lg; have cB5 := h5.1.trans cg; have lB5 := h5.2; have fB5 := (hwr5.fz (wg.heap.size) 0).trans ((HX34.out.frozen (o := 0) lg).trans fg.out); have hgB : ¬ g = wg.heap.size := (by omega); have hBg : ¬ wg.heap.size = g := (by omega); have HOW := Lib.hid hown5; have HWR := Lib.hid hwr5; have HS5 := Lib.hid hs5; clear hown5 hwr5 hs5 h5
            refine hK.out _ _ (trivial) (fun hHeld => ?_)
            clear hK K
            try simp only [Act.put, List.setIfInBounds_toArray, List.set_cons_zero, List.set_cons_succ]
            refine held_on (i := 7) (d := (some 83)) (v := ?_) rfl rfl (by kernel_rfl) (by kernel_rfl) (by kernel_rfl) (fun _ _ _ h => h) (by rfl) hHeld ?_ ?_
            rotate_left
            focus (intro w hSw; (try dsimp only at hSw); go_simp; first | done | with_reducible rfl)
            try simp only [Act.put, List.setIfInBounds_toArray, List.set_cons_zero, List.set_cons_succ]
            refine held_two (i := 8) (j := 9) (by kernel_rfl) rfl rfl (by rfl) (by rfl) (fun K hK => ?_) (fun K hK => ?_)
            · go_simp
              skip
              refine hK.out _ _ (trivial) (fun hHeld => ?_)
              clear hK K
              try simp only [Act.put, List.setIfInBounds_toArray, List.set_cons_zero, List.set_cons_succ]
              refine held_call (i := 9) (by kernel_rfl) rfl (by rfl) (fun K hK => ?_)
              go_simp
              skip
              refine hK.out _ _ (trivial) (fun hHeld => ?_)
              clear hK K
              try simp only [Act.put, List.setIfInBounds_toArray, List.set_cons_zero, List.set_cons_succ]
              refine wpAnyH_done (by kernel_rfl) ?_ _
              gi_wp2_with fail
              have hL := (coll_leaf1 hl1 HBLK.out HO.out HES.out HST.out hsz' H03.out HRV.out HG.out.key HX34.out HWR.out HS5.out hby HOW.out).1
              rw [← HSN.out] at hL
              exact hL
            · go_simp
              skip
              refine hK.out _ _ (trivial) (fun hHeld => ?_)
              clear hK K
              try simp only [Act.put, List.setIfInBounds_toArray, List.set_cons_zero, List.set_cons_succ]
              refine held_call (i := 8) (by kernel_rfl) rfl (by rfl) (fun K hK => ?_)
              go_simp
              skip
              refine hK.out _ _ (trivial) (fun hHeld => ?_)
              clear hK K
              try simp only [Act.put, List.setIfInBounds_toArray, List.set_cons_zero, List.set_cons_succ]
              refine wpAnyH_done (by kernel_rfl) ?_ _
              gi_wp2_with fail
              have hL := (coll_leaf1 hl1 HBLK.out HO.out HES.out HST.out hsz' H03.out HRV.out HG.out.key HX34.out HWR.out HS5.out hby HOW.out).2
              rw [← HSN.out] at hL
              exact hL
          · go_simp
            skip
            refine hK.out _ _ (trivial) (fun hHeld => ?_)
            clear hK K
            try simp only [Act.put, List.setIfInBounds_toArray, List.set_cons_zero, List.set_cons_succ]
            refine held_call (i := 2) (by kernel_rfl) rfl (by rfl) (fun K hK => ?_)
            go_simp
            skip
            refine hK.out _ _ (trivial) (fun hHeld => ?_)
            clear hK K
            try simp only [Act.put, List.setIfInBounds_toArray, List.set_cons_zero, List.set_cons_succ]
            refine held_on (i := 3) (d := (some 79)) (v := ?_) rfl rfl (by kernel_rfl) (by kernel_rfl) (by kernel_rfl) (fun _ _ _ h => h) (by rfl) hHeld ?_ ?_
            rotate_left
            focus (intro w hSw; (try dsimp only at hSw); go_simp; first | done | with_reducible rfl)
            try simp only [Act.put, List.setIfInBounds_toArray, List.set_cons_zero, List.set_cons_succ]
            refine held_call (i := 6) (by kernel_rfl) rfl (by rfl) (fun K hK => ?_)
            skip
            refine wp_append_x _ (.tmp 76) (.tmp 81) 53 rfl (W6.heap.size + 2) 56 i0 _ 7 104 Try.underlying53 hi hz0 hz1' hz2 rfl (by decide) s ys.length (flatE ys) (by rfl) HOWN4.out (fun b => b = W3.heap.size) ⟨some ⟨W3.heap.size, 0, none⟩, 1⟩ 1 zeroL (by rfl) HZB.out hz1 h63 hby hbase ?_; intro s3 w5 hown5 hwr5 hs5; obtain ⟨g, cap, rfl, hbg, hnc, hcm, lg5, fg5, z0, z1, z2, z3, z4, z5, z6⟩ := row_zero hown5 (flatE_len ys); have h5 := hwr5.cell0 (o := 0) HX34.out (fun e => by have := (hrow0 _ e).1; omega) lg; have cB5 := h5.1.trans cg; have lB5 := h5.2; have fB5 := (hwr5.fz (wg.heap.size) 0).trans ((HX34.out.frozen (o := 0) lg).trans fg.out); have hgB : ¬ g = wg.heap.size := (by omega); have hBg : ¬ wg.heap.size = g := (by omega); have HOW := Lib.hid hown5; have HWR := Lib.hid hwr5; have HS5 := Lib.hid hs5; clear hown5 hwr5 hs5 h5
            refine hK.out _ _ (trivial) (fun hHeld => ?_)
            clear hK K
            try simp only [Act.put, List.setIfInBounds_toArray, List.set_cons_zero, List.set_cons_succ]
            refine held_on (i := 7) (d := (some 83)) (v := ?_) rfl rfl (by kernel_rfl) (by kernel_rfl) (by kernel_rfl) (fun _ _ _ h => h) (by rfl) hHeld ?_ ?_
            rotate_left
            focus (intro w hSw; (try dsimp only at hSw); go_simp; first | done | with_reducible rfl)
            try simp only [Act.put, List.setIfInBounds_toArray, List.set_cons_zero, List.set_cons_succ]
            refine held_two (i := 8) (j := 9) (by kernel_rfl) rfl rfl (by rfl) (by rfl) (fun K hK => ?_) (fun K hK => ?_)
            · go_simp
              skip
              refine hK.out _ _ (trivial) (fun hHeld => ?_)
              clear hK K
              try simp only [Act.put, List.setIfInBounds_toArray, List.set_cons_zero, List.set_cons_succ]
              refine held_call (i := 9) (by kernel_rfl) rfl (by rfl) (fun K hK => ?_)
              go_simp
              skip
              refine hK.out _ _ (trivial) (fun hHeld => ?_)
              clear hK K
              try simp only [Act.put, List.setIfInBounds_toArray, List.set_cons_zero, List.set_cons_succ]
              refine wpAnyH_done (by kernel_rfl) ?_ _
              gi_wp2_with fail
              have hL := (coll_leaf1 hl1 HBLK.out HO.out HES.out HST.out hsz' H03.out HRV.out HG.out.key HX34.out HWR.out HS5.out hby HOW.out).1
              rw [← HSN.out] at hL
              exact hL
            · go_simp
              skip
              refine hK.out _ _ (trivial) (fun hHeld => ?_)
              clear hK K
              try simp only [Act.put, List.setIfInBounds_toArray, List.set_cons_zero, List.set_cons_succ]
              refine held_call (i := 8) (by kernel_rfl) rfl (by rfl) (fun K hK => ?_)
              go_simp
              skip
              refine hK.out _ _ (trivial) (fun hHeld => ?_)
              clear hK K
              try simp only [Act.put, List.setIfInBounds_toArray, List.set_cons_zero, List.set_cons_succ]
              refine wpAnyH_done (by kernel_rfl) ?_ _
              gi_wp2_with fail
              have hL := (coll_leaf1 hl1 HBLK.out HO.out HES.out HST.out hsz' H03.out HRV.out HG.out.key HX34.out HWR.out HS5.out hby HOW.out).2
              rw [← HSN.out] at hL
              exact hL
        · go_simp
          skip
          refine hK.out _ _ (trivial) (fun hHeld => ?_)
          clear hK K
          try simp only [Act.put, List.setIfInBounds_toArray, List.set_cons_zero, List.set_cons_succ]
          refine held_on (i := 3) (d := (some 79)) (v := ?_) rfl rfl (by kernel_rfl) (by kernel_rfl) (by kernel_rfl) (fun _ _ _ h => h) (by rfl) hHeld ?_ ?_
          rotate_left
          focus (intro w hSw; (try dsimp only at hSw); go_simp; first | done | with_reducible rfl)
          try simp only [Act.put, List.setIfInBounds_toArray, List.set_cons_zero, List.set_cons_succ]
          refine held_two (i := 0) (j := 5) (by kernel_rfl) rfl rfl (by rfl) (by rfl) (fun K hK => ?_) (fun K hK => ?_)
          · go_simp
            skip
            refine hK.out _ _ (trivial) (fun hHeld => ?_)
            clear hK K
            try simp only [Act.put, List.setIfInBounds_toArray, List.set_cons_zero, List.set_cons_succ]
            refine held_on (i := 4) (d := (some 80)) (v := ?_) rfl rfl (by kernel_rfl) (by kernel_rfl) (by kernel_rfl) (fun _ _ _ h => h) (by rfl) hHeld ?_ ?_
            rotate_left
            focus (intro w hSw; (try dsimp only at hSw); go_simp; first | done | with_reducible rfl)
            try simp only [Act.put, List.setIfInBounds_toArray, List.set_cons_zero, List.set_cons_succ]
            refine held_call (i := 5) (by kernel_rfl) rfl (by rfl) (fun K hK => ?_)
            go_simp
            skip
            refine hK.out _ _ (trivial) (fun hHeld => ?_)
            clear hK K
            try simp only [Act.put, List.setIfInBounds_toArray, List.set_cons_zero, List.set_cons_succ]
            refine held_call (i := 6) (by kernel_rfl) rfl (by rfl) (fun K hK => ?_)
            skip
            refine wp_append_x _ (.tmp 76) (.tmp 81) 53 rfl (W6.heap.size + 2) 56 i0 _ 7 104 Try.underlying53 hi hz0 hz1' hz2 rfl (by decide) s ys.length (flatE ys) (by rfl) HOWN4.out (fun b => b = W3.heap.size) ⟨some ⟨W3.heap.size, 0, none⟩, 1⟩ 1 zeroL (by rfl) HZB.out hz1 h63 hby hbase ?_; intro s3 w5 hown5 hwr5 hs5; obtain ⟨g, cap, rfl, hbg, hnc, hcm, lg5, fg5, z0, z1, z2, z3, z4, z5, z6⟩ := row_zero hown5 (flatE_len ys); have h5 := hwr5.cell0 (o := 0) HX34.out (fun e => by have := (hrow0 _ e).1; omega) lg; have cB5 := h5.1.trans cg; have lB5 := h5.2; have fB5 := (hwr5.fz (wg.heap.size) 0).trans ((HX34.out.frozen (o := 0) lg).trans fg.out); have hgB : ¬ g = wg.heap.size := (by omega); have hBg : ¬ wg.heap.size = g := (by omega); have HOW := Lib.hid hown5; have HWR := Lib.hid hwr5; have HS5 := Lib.hid hs5; clear hown5 hwr5 hs5 h5
            refine hK.out _ _ (trivial) (fun hHeld => ?_)
            clear hK K
            try simp only [Act.put, List.setIfInBounds_toArray, List.set_cons_zero, List.set_cons_succ]
            refine held_on (i := 7) (d := (some 83)) (v := ?_) rfl rfl (by kernel_rfl) (by kernel_rfl) (by kernel_rfl) (fun _ _ _ h => h) (by rfl) hHeld ?_ ?_
            rotate_left
            focus (intro w hSw; (try dsimp only at hSw); go_simp; first | done | with_reducible rfl)
            try simp only [Act.put, List.setIfInBounds_toArray, List.set_cons_zero, List.set_cons_succ]
            refine held_two (i := 8) (j := 9) (by kernel_rfl) rfl rfl (by rfl) (by rfl) (fun K hK => ?_) (fun K hK => ?_)
            · go_simp
              skip
              refine hK.out _ _ (trivial) (fun hHeld => ?_)
              clear hK K
              try simp only [Act.put, List.setIfInBounds_toArray, List.set_cons_zero, List.set_cons_succ]
              refine held_call (i := 9) (by kernel_rfl) rfl (by rfl) (fun K hK => ?_)
              go_simp
              skip
              refine hK.out _ _ (trivial) (fun hHeld => ?_)
              clear hK K
              try simp only [Act.put, List.setIfInBounds_toArray, List.set_cons_zero, List.set_cons_succ]
              refine wpAnyH_done (by kernel_rfl) ?_ _
              gi_wp2_with fail
              have hL := (coll_leaf1 hl1 HBLK.out HO.out HES.out HST.out hsz' H03.out HRV.out HG.out.key HX34.out HWR.out HS5.out hby HOW.out).1
              rw [← HSN.out] at hL
              exact hL
            · go_simp
              skip
              refine hK.out _ _ (trivial) (fun hHeld => ?_)
              clear hK K
              try simp only [Act.put, List.setIfInBounds_toArray, List.set_cons_zero, List.set_cons_succ]
              refine held_call (i := 8) (by kernel_rfl) rfl (by rfl) (fun K hK => ?_)
              go_simp
              skip
              refine hK.out _ _ (trivial) (fun hHeld => ?_)
              clear hK K
              try simp only [Act.put, List.setIfInBounds_toArray, List.set_cons_zero, List.set_cons_succ]
              refine wpAnyH_done (by kernel_rfl) ?_ _
              gi_wp2_with fail
              have hL := (coll_leaf1 hl1 HBLK.out HO.out HES.out HST.out hsz' H03.out HRV.out HG.out.key HX34.out HWR.out HS5.out hby HOW.out).2
              rw [← HSN.out] at hL
              exact hL
          · go_simp
            skip
            refine hK.out _ _ (trivial) (fun hHeld => ?_)
            clear hK K
            try simp only [Act.put, List.setIfInBounds_toArray, List.set_cons_zero, List.set_cons_succ]
            refine held_call (i := 0) (by kernel_rfl) rfl (by rfl) (fun K hK => ?_)
            go_simp
            skip
            refine hK.out _ _ (trivial) (fun hHeld => ?_)
            clear hK K
            try simp only [Act.put, List.setIfInBounds_toArray, List.set_cons_zero, List.set_cons_succ]
            refine held_on (i := 4) (d := (some 80)) (v := ?_) rfl rfl (by kernel_rfl) (by kernel_rfl) (by kernel_rfl) (fun _ _ _ h => h) (by rfl) hHeld ?_ ?_
            rotate_left
            focus (intro w hSw; (try dsimp only at hSw); go_simp; first | done | with_reducible rfl)
            try simp only [Act.put, List.setIfInBounds_toArray, List.set_cons_zero, List.set_cons_succ]
            refine held_call (i := 6) (by kernel_rfl) rfl (by rfl) (fun K hK => ?_)
            skip
            refine wp_append_x _ (.tmp 76) (.tmp 81) 53 rfl (W6.heap.size + 2) 56 i0 _ 7 104 Try.underlying53 hi hz0 hz1' hz2 rfl (by decide) s ys.length (flatE ys) (by rfl) HOWN4.out (fun b => b = W3.heap.size) ⟨some ⟨W3.heap.size, 0, none⟩, 1⟩ 1 zeroL (by rfl) HZB.out hz1 h63 hby hbase ?_; intro s3 w5 hown5 hwr5 hs5; obtain ⟨g, cap, rfl, hbg, hnc, hcm, lg5, fg5, z0, z1, z2, z3, z4, z5, z6⟩ := row_zero hown5 (flatE_len ys); have h5 := hwr5.cell0 (o := 0) HX34.out (fun e => by have := (hrow0 _ e).1; omega) lg; have cB5 := h5.1.trans cg; have lB5 := h5.2; have fB5 := (hwr5.fz (wg.heap.size) 0).trans ((HX34.out.frozen (o := 0) lg).trans fg.out); have hgB : ¬ g = wg.heap.size := (by omega); have hBg : ¬ wg.heap.size = g := (by omega); have HOW := Lib.hid hown5; have HWR := Lib.hid hwr5; have HS5 := Lib.hid hs5; clear hown5 hwr5 hs5 h5
            refine hK.out _ _ (trivial) (fun hHeld => ?_)
            clear hK K
            try simp only [Act.put, List.setIfInBounds_toArray, List.set_cons_zero, List.set_cons_succ]
            refine held_on (i := 7) (d := (some 83)) (v := ?_) rfl rfl (by kernel_rfl) (by kernel_rfl) (by kernel_rfl) (fun _ _ _ h => h) (by rfl) hHeld ?_ ?_
            rotate_left
            focus (intro w hSw; (try dsimp only at hSw); go_simp; first | done | with_reducible rfl)
            try simp only [Act.put, List.setIfInBounds_toArray, List.set_cons_zero, List.set_cons_succ]
            refine held_two (i := 8) (j := 9) (by kernel_rfl) rfl rfl (by rfl) (by rfl) (fun K hK => ?_) (fun K hK => ?_)
            · go_simp
              skip
              refine hK.out _ _ (trivial) (fun hHeld => ?_)
              clear hK K
              try simp only [Act.put, List.setIfInBounds_toArray, List.set_cons_zero, List.set_cons_succ]
              refine held_call (i := 9) (by kernel_rfl) rfl (by rfl) (fun K hK => ?_)
              go_simp
              skip
              refine hK.out _ _ (trivial) (fun hHeld => ?_)
              clear hK K
              try simp only [Act.put, List.setIfInBounds_toArray, List.set_cons_zero, List.set_cons_succ]
              refine wpAnyH_done (by kernel_rfl) ?_ _
              gi_wp2_with fail
              have hL := (coll_leaf1 hl1 HBLK.out HO.out HES.out HST.out hsz' H03.out HRV.out HG.out.key HX34.out HWR.out HS5.out hby HOW.out).1
              rw [← HSN.out] at hL
              exact hL
            · go_simp
              skip
              refine hK.out _ _ (trivial) (fun hHeld => ?_)
              clear hK K
              try simp only [Act.put, List.setIfInBounds_toArray, List.set_cons_zero, List.set_cons_succ]
              refine held_call (i := 8) (by kernel_rfl) rfl (by rfl) (fun K hK => ?_)
              go_simp
              skip
              refine hK.out _ _ (trivial) (fun hHeld => ?_)
              clear hK K
              try simp only [Act.put, List.setIfInBounds_toArray, List.set_cons_zero, List.set_cons_succ]
              refine wpAnyH_done (by kernel_rfl) ?_ _
              gi_wp2_with fail
              have hL := (coll_leaf1 hl1 HBLK.out HO.out HES.out HST.out hsz' H03.out HRV.out HG.out.key HX34.out HWR.out HS5.out hby HOW.out).2
              rw [← HSN.out] at hL
              exact hL
        · go_simp
          skip
          refine hK.out _ _ (trivial) (fun hHeld => ?_)
          clear hK K
          try simp only [Act.put, List.setIfInBounds_toArray, List.set_cons_zero, List.set_cons_succ]
          refine held_two (i := 0) (j := 2) (by kernel_rfl) rfl rfl (by rfl) (by rfl) (fun K hK => ?_) (fun K hK => ?_)
          · go_simp
            skip
            refine hK.out _ _ (trivial) (fun hHeld => ?_)
            clear hK K
            try simp only [Act.put, List.setIfInBounds_toArray, List.set_cons_zero, List.set_cons_succ]
            refine held_on (i := 4) (d := (some 80)) (v := ?_) rfl rfl (by kernel_rfl) (by kernel_rfl) (by kernel_rfl) (fun _ _ _ h => h) (by rfl) hHeld ?_ ?_
            rotate_left
            focus (intro w hSw; (try dsimp only at hSw); go_simp; first | done | with_reducible rfl)
            try simp only [Act.put, List.setIfInBounds_toArray, List.set_cons_zero, List.set_cons_succ]
            refine held_call (i := 2) (by kernel_rfl) rfl (by rfl) (fun K hK => ?_)
            go_simp
            skip
            refine hK.out _ _ (trivial) (fun hHeld => ?_)
            clear hK K
            try simp only [Act.put, List.setIfInBounds_toArray, List.set_cons_zero, List.set_cons_succ]
            refine held_on (i := 3) (d := (some 79)) (v := ?_) rfl rfl (by kernel_rfl) (by kernel_rfl) (by kernel_rfl) (fun _ _ _ h => h) (by rfl) hHeld ?_ ?_
            rotate_left
            focus (intro w hSw; (try dsimp only at hSw); go_simp; first | done | with_reducible rfl)
            try simp only [Act.put, List.setIfInBounds_toArray, List.set_cons_zero, List.set_cons_succ]
            refine held_call (i := 6) (by kernel_rfl) rfl (by rfl) (fun K hK => ?_)
            skip
            refine wp_append_x _ (.tmp 76) (.tmp 81) 53 rfl (W6.heap.size + 2) 56 i0 _ 7 104 Try.underlying53 hi hz0 hz1' hz2 rfl (by decide) s ys.length (flatE ys) (by rfl) HOWN4.out (fun b => b = W3.heap.size) ⟨some ⟨W3.heap.size, 0, none⟩, 1⟩ 1 zeroL (by rfl) HZB.out hz1 h63 hby hbase ?_; intro s3 w5 hown5 hwr5 hs5; obtain ⟨g, cap, rfl, hbg, hnc, hcm, lg5, fg5, z0, z1, z2, z3, z4, z5, z6⟩ := row_zero hown5 (flatE_len ys); have h5 := hwr5.cell0 (o := 0) HX34.out (fun e => by have := (hrow0 _ e).1; omega) lg; have cB5 := h5.1.trans cg; have lB5 := h5.2; have fB5 := (hwr5.fz (wg.heap.size) 0).trans ((HX34.out.frozen (o := 0) lg).trans fg.out); have hgB : ¬ g = wg.heap.size := (by omega); have hBg : ¬ wg.heap.size = g := (by omega); have HOW := Lib.hid hown5; have HWR := Lib.hid hwr5; have HS5 := Lib.hid hs5; clear hown5 hwr5 hs5 h5
            refine hK.out _ _ (trivial) (fun hHeld => ?_)
            clear hK K
            try simp only [Act.put, List.setIfInBounds_toArray, List.set_cons_zero, List.set_cons_succ]
            refine held_on (i := 7) (d := (some 83)) (v := ?_) rfl rfl (by kernel_rfl) (by kernel_rfl) (by kernel_rfl) (fun _ _ _ h => h) (by rfl) hHeld ?_ ?_
            rotate_left
            focus (intro w hSw; (try dsimp only at hSw); go_simp; first | done | with_reducible rfl)
            try simp only [Act.put, List.setIfInBounds_toArray, List.set_cons_zero, List.set_cons_succ]
            refine held_two (i := 8) (j := 9) (by kernel_rfl) rfl rfl (by rfl) (by rfl) (fun K hK => ?_) (fun K hK => ?_)
            · go_simp
              skip
              refine hK.out _ _ (trivial) (fun hHeld => ?_)
              clear hK K
              try simp only [Act.put, List.setIfInBounds_toArray, List.set_cons_zero, List.set_cons_succ]
              refine held_call (i := 9) (by kernel_rfl) rfl (by rfl) (fun K hK => ?_)
              go_simp
              skip
              refine hK.out _ _ (trivial) (fun hHeld => ?_)
              clear hK K
              try simp only [Act.put, List.setIfInBounds_toArray, List.set_cons_zero, List.set_cons_succ]
              refine wpAnyH_done (by kernel_rfl) ?_ _
              gi_wp2_with fail
              have hL := (coll_leaf1 hl1 HBLK.out HO.out HES.out HST.out hsz' H03.out HRV.out HG.out.key HX34.out HWR.out HS5.out hby HOW.out).1
              rw [← HSN.out] at hL
              exact hL
            · go_simp
              skip
              refine hK.out _ _ (trivial) (fun hHeld => ?_)
              clear hK K
              try simp only [Act.put, List.setIfInBounds_toArray, List.set_cons_zero, List.set_cons_succ]
              refine held_call (i := 8) (by kernel_rfl) rfl (by rfl) (fun K hK => ?_)
              go_simp
              skip
              refine hK.out _ _ (trivial) (fun hHeld => ?_)
              clear hK K
              try simp only [Act.put, List.setIfInBounds_toArray, List.set_cons_zero, List.set_cons_succ]
              refine wpAnyH_done (by kernel_rfl) ?_ _
              gi_wp2_with fail
              have hL := (coll_leaf1 hl1 HBLK.out HO.out HES.out HST.out hsz' H03.out HRV.out HG.out.key HX34.out HWR.out HS5.out hby HOW.out).2
              rw [← HSN.out] at hL
              exact hL
          · go_simp
            skip
            refine hK.out _ _ (trivial) (fun hHeld => ?_)
            clear hK K
            try simp only [Act.put, List.setIfInBounds_toArray, List.set_cons_zero, List.set_cons_succ]
            refine held_on (i := 3) (d := (some 79)) (v := ?_) rfl rfl (by kernel_rfl) (by kernel_rfl) (by kernel_rfl) (fun _ _ _ h => h) (by rfl) hHeld ?_ ?_
            rotate_left
            focus (intro w hSw; (try dsimp only at hSw); go_simp; first | done | with_reducible rfl)
            try simp only [Act.put, List.setIfInBounds_toArray, List.set_cons_zero, List.set_cons_succ]
            refine held_call (i := 0) (by kernel_rfl) rfl (by rfl) (fun K hK => ?_)
            go_simp
            skip
            refine hK.out _ _ (trivial) (fun hHeld => ?_)
            clear hK K
            try simp only [Act.put, List.setIfInBounds_toArray, List.set_cons_zero, List.set_cons_succ]
            refine held_on (i := 4) (d := (some 80)) (v := ?_) rfl rfl (by kernel_rfl) (by kernel_rfl) (by kernel_rfl) (fun _ _ _ h => h) (by rfl) hHeld ?_ ?_
            rotate_left
            focus (intro w hSw; (try dsimp only at hSw); go_simp; first | done | with_reducible rfl)
            try simp only [Act.put, List.setIfInBounds_toArray, List.set_cons_zero, List.set_cons_succ]
            refine held_call (i := 6) (by kernel_rfl) rfl (by rfl) (fun K hK => ?_)
            skip
            refine wp_append_x _ (.tmp 76) (.tmp 81) 53 rfl (W6.heap.size + 2) 56 i0 _ 7 104 Try.underlying53 hi hz0 hz1' hz2 rfl (by decide) s ys.length (flatE ys) (by rfl) HOWN4.out (fun b => b = W3.heap.size) ⟨some ⟨W3.heap.size, 0, none⟩, 1⟩ 1 zeroL (by rfl) HZB.out hz1 h63 hby hbase ?_; intro s3 w5 hown5 hwr5 hs5; obtain ⟨g, cap, rfl, hbg, hnc, hcm, lg5, fg5, z0, z1, z2, z3, z4, z5, z6⟩ := row_zero hown5 (flatE_len ys); have h5 := hwr5.cell0 (o := 0) HX34.out (fun e => by have := (hrow0 _ e).1; omega) lg; have cB5 := h5.1.trans cg; have lB5 := h5.2; have fB5 := (hwr5.fz (wg.heap.size) 0).trans ((HX34.out.frozen (o := 0) lg).trans fg.out); have hgB : ¬ g = wg.heap.size := (by omega); have hBg : ¬ wg.heap.size = g := (by omega); have HOW := Lib.hid hown5; have HWR := Lib.hid hwr5; have HS5 := Lib.hid hs5; clear hown5 hwr5 hs5 h5
            refine hK.out _ _ (trivial) (fun hHeld => ?_)
            clear hK K
            try simp only [Act.put, List.setIfInBounds_toArray, List.set_cons_zero, List.set_cons_succ]
            refine held_on (i := 7) (d := (some 83)) (v := ?_) rfl rfl (by kernel_rfl) (by kernel_rfl) (by kernel_rfl) (fun _ _ _ h => h) (by rfl) hHeld ?_ ?_
            rotate_left
            focus (intro w hSw; (try dsimp only at hSw); go_simp; first | done | with_reducible rfl)
            try simp only [Act.put, List.setIfInBounds_toArray, List.set_cons_zero, List.set_cons_succ]
            refine held_two (i := 8) (j := 9) (by kernel_rfl) rfl rfl (by rfl) (by rfl) (fun K hK => ?_) (fun K hK => ?_)
            · go_simp
              skip
              refine hK.out _ _ (trivial) (fun hHeld => ?_)
              clear hK K
              try simp only [Act.put, List.setIfInBounds_toArray, List.set_cons_zero, List.set_cons_succ]
              refine held_call (i := 9) (by kernel_rfl) rfl (by rfl) (fun K hK => ?_)
              go_simp
              skip
              refine hK.out _ _ (trivial) (fun hHeld => ?_)
              clear hK K
              try simp only [Act.put, List.setIfInBounds_toArray, List.set_cons_zero, List.set_cons_succ]
              refine wpAnyH_done (by kernel_rfl) ?_ _
              gi_wp2_with fail
              have hL := (coll_leaf1 hl1 HBLK.out HO.out HES.out HST.out hsz' H03.out HRV.out HG.out.key HX34.out HWR.out HS5.out hby HOW.out).1
              rw [← HSN.out] at hL
              exact hL
            · go_simp
              skip
              refine hK.out _ _ (trivial) (fun hHeld => ?_)
              clear hK K
              try simp only [Act.put, List.setIfInBounds_toArray, List.set_cons_zero, List.set_cons_succ]
              refine held_call (i := 8) (by kernel_rfl) rfl (by rfl) (fun K hK => ?_)
              go_simp
              skip
              refine hK.out _ _ (trivial) (fun hHeld => ?_)
              clear hK K
              try simp only [Act.put, List.setIfInBounds_toArray, List.set_cons_zero, List.set_cons_succ]
              refine wpAnyH_done (by kernel_rfl) ?_ _
              gi_wp2_with fail
              have hL := (coll_leaf1 hl1 HBLK.out HO.out HES.out HST.out hsz' H03.out HRV.out HG.out.key HX34.out HWR.out HS5.out hby HOW.out).2
              rw [← HSN.out] at hL
              exact hL
      case donex =>
        rintro D2 xs2 C2 W7 hD2 hS2 ⟨⟨s7, ys7, rfl, hblk7, ho7, hes7⟩, hst7, hsz7⟩ hDk2
        have hye : ys7.map LE.ent = zs.map LE.ent := by rw [hes7, HZ8.out]; exact hS2
        have hs67 := hst7.size
        have hag3 : Agree (Lt w3.heap.size) w3 W7 := (HE34.out.agree fun b hb => hb).trans ((H46.out.trans hst7).agree.mono fun b hb => ⟨by have hb : b < w3.heap.size := hb; omega, by have hb : b < w3.heap.size := hb; omega⟩)
        have hgW : ES W7 (Lt W7.heap.size) s7 ys7 := ho7.es.mono fun i hi => hi.2
        have hzW : ES W7 (Lt W7.heap.size) s8 zs := (HS8.out.agree hag3).mono fun i hi => by have hi : i < w3.heap.size := hi; show i < W7.heap.size; omega
        have hsm := sameEnt_any hgW hzW
        rw [hye, sameE_refl] at hsm
        have HSM := Lib.hid hsm
        have cg : W7.cell? ⟨wg.heap.size, 0, none⟩ = some (.slice s7.a ys7.length s7.c) := hblk7.cell 0
        have lg := hblk7.lt
        have HST7 := Lib.hid hst7
        have HDK2 := Lib.hid hDk2
        have HDD2 := Lib.hid hD2
        clear hye hag3 hgW hzW hsm hblk7 ho7 hes7 hst7 hDk2 hD2 hS2
        gi_wp2_with fail
        refine ⟨trivial, ?_⟩
        refine (callsIn_wide.2 HSM.out).mono ?_
        rintro e wa ⟨rfl, hxa⟩
        have HXA := Lib.hid hxa
        clear hxa cg lg
        gi_wp2_with fail
        refine ⟨trivial, ?_⟩
        refine (callsIn_wide.2 (known08 _)).mono ?_
        rintro e wd ⟨rfl, hbd⟩
        have hb := Bw.trans HXA.out.below hbd
        have HB := Lib.hid hb
        have hDl := (Array.getElem?_eq_some_iff.1 HDK.out).1
        have h1 : W5.heap[D]? = _ := (HE5.out.heap hDl).trans HDK.out
        have h2 : W6.heap[D]? = _ := (HS6.out.block D (Array.getElem?_eq_some_iff.1 h1).1 (by have := HDD.out; omega)).trans h1
        have h3 : W7.heap[D]? = _ := (HST7.out.block D (Array.getElem?_eq_some_iff.1 h2).1 (by have := HDD.out; omega)).trans h2
        have hd1 := (hb.block D (Array.getElem?_eq_some_iff.1 h3).1).trans h3
        have hd2 := (hb.block D2 (Array.getElem?_eq_some_iff.1 HDK2.out).1).trans HDK2.out
        have HD1 := Lib.hid hd1
        have HD2 := Lib.hid hd2
        have hDne : D ≠ D2 := by have := HDD.out; have := HDD2.out; omega
        have HNE := Lib.hid hDne
        clear hb hd1 hd2 hbd h1 h2 h3 hDne
        gi_wp2_with fail
        have hk2 : St (fun b => b = D2) wd (wd.putObj D2 (.deferred none)) := St.put HD2.out rfl rfl
        have hd1' := (hk2.block D (Array.getElem?_eq_some_iff.1 HD1.out).1 HNE.out).trans HD1.out
        have hk1 : St (fun b => b = D) (wd.putObj D2 (.deferred none)) ((wd.putObj D2 (.deferred none)).putObj D (.deferred none)) := St.put hd1' rfl rfl
        refine ⟨by simp, .inl ⟨_, _, rfl, run_takeDeferred HD2.out, ?_⟩⟩
        refine ⟨by simp, .inl ⟨_, _, rfl, run_takeDeferred hd1', ?_⟩⟩
        refine ⟨.bool true, ?_, rfl, ?_⟩
        · simp [results, Try.f12, go_sem]
        · have hw1 : Below w.heap.size w w4 := (HX1.out.trans HE14.out).below
          have hB := HB.out
          have k1 := hB.size
          have k2 := hw1.size
          have e1 := HDD.out
          have e2 := HDD2.out
          have h67 : St (fun b => b = wg.heap.size ∨ b = D ∨ b = D2) w4 W7 := (H46.out.trans HST7.out).mono fun i _ hi => .inl hi
          have hend : St (fun b => b = wg.heap.size ∨ b = D ∨ b = D2) wd ((wd.putObj D2 (.deferred none)).putObj D (.deferred none)) := (hk2.mono fun i _ hi => .inr (.inr hi)).trans (hk1.mono fun i _ hi => .inr (.inl hi))
          have hw7 : Below w.heap.size w W7 := hw1.trans ⟨h67.os, h67.tape, h67.output, h67.size, fun b hb => h67.block b (by omega) (by omega)⟩
          have k3 := hw7.size
          exact (hw7.trans (hB.mono hw7.size)).trans ⟨hend.os, hend.tape, hend.output, hend.size, fun b hb => hend.block b (by omega) (by omega)⟩
theorem scanrange_w (s : Sl) (xs : List LE) (lo hi' : ByteArray) (op : Bool) (few : Int) (w : World) (h : ES w (Lt w.heap.size) s xs) (hlo : lo.size ≤ maxLen) (hhi : hi'.size ≤ maxLen) (hf : (Lit.int .i64 few).wf = true) : Calls Try.prog 12 #[.slice s.a xs.length s.c, .string lo, .string hi', .bool op, .int .i64 few] w fun e w' => e = .returned (.bool true) ∧ Below w.heap.size w w' := by
  by_cases hl : xs.length ≤ 400
  · exact scanrange_yes lo hi' op few (i64_bounds hf).1 (i64_bounds hf).2 h hl
  · exact scanrange_not lo hi' op few (by omega)
end Go.Proofs.Ytpapoalgocmlaaa
