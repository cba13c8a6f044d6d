/- ScanAll: all is told just as the tree's entries are. -/
import Derived.Test.YtpapoalgocmlaaaColl2
namespace Go.Proofs.Ytpapoalgocmlaaa
open Go.RowKit Go.Shelf
set_option linter.unusedVariables false
set_option linter.unusedSimpArgs false
attribute [local go_sem] Oper.semAt_some

theorem eql_func_nil9 {P : Program} (w : World) {t : TypeId} {ps rs : Array TypeId} {b : Bool} (f : Fn) (ta lb : Array Value) (hp : P.underlying t = some (.func ps rs b)) :
    (binOp .eql t (.func f ta lb) .nilFunc).run P w = .ok (.bool false) w := by
  have h : ∀ d : Nat, (Op.equalIn (d + 1) t (.func f ta lb) .nilFunc).run P w = .ok false w := fun d => by
    simp [Op.equalIn, run_underlying hp]
  simp only [binOp]
  simp [Op.equal, Op.maxDepth, h 9999]
theorem Bw.es {w w' : World} {s : Sl} {xs : List LE} (h : ES w (Lt w.heap.size) s xs) (k : Below w.heap.size w w') : ES w' (Lt w'.heap.size) s xs := (h.agree (Agree.of_below k (F := Lt w.heap.size) fun _ h => h)).mono fun _ hi => Nat.lt_of_lt_of_le hi k.size
set_option maxRecDepth 100000 in
theorem scanall_not {w : World} {s : Sl} {n : Nat} (h : 400 < n) : Calls Try.prog 19 #[.slice s.a n s.c] w fun e w' => e = .returned (.bool true) ∧ Below w.heap.size w w' := by
  have hm := made_not (w := w) (s := s) h
  have HM := Lib.hid hm
  clear hm
  refine (callsIn_wide (n := 6)).1 ?_
  refine callsIn_of_wp_marks Try.func19 rfl trivial ?_ rfl
  simp only [Try.ntmps19, List.size_toArray, List.length_cons, List.length_nil, Nat.reduceAdd, Nat.reduceSub, Array.replicate_succ, Array.replicate_zero, List.push_toArray, List.append_toArray, List.nil_append, List.cons_append]
  gi_wp2_with fail
  refine ⟨trivial, ?_⟩
  refine (callsIn_wide.2 HM.out).mono ?_
  rintro e w1 ⟨rfl, hx1⟩
  have hx2 := hx1.alloc #[.pointer none] 30
  have HX2 := Lib.hid hx2
  clear hx1 hx2
  gi_wp2_with fail
  refine ⟨trivial, ?_⟩
  refine (callsIn_wide.2 (known08 _)).mono ?_
  rintro e w2 ⟨rfl, hb2⟩
  have HB2 := Lib.hid hb2
  clear hb2
  gi_wp2_with fail
  refine ⟨.bool true, ?_, rfl, HX2.out.below.trans (HB2.out.mono HX2.out.size)⟩
  simp [results, Try.f19, go_sem]
set_option maxRecDepth 100000 in
set_option maxHeartbeats 8000000 in
theorem scanall_yes {w : World} {s : Sl} {xs : List LE} (h : ES w (Lt w.heap.size) s xs) (hl : xs.length ≤ 400) : Calls Try.prog 19 #[.slice s.a xs.length s.c] w fun e w' => e = .returned (.bool true) ∧ Below w.heap.size w w' := by
  obtain ⟨i0, hi, hz0, hz1', hz2⟩ := info_parts Try.infoEntry
  have hm := made_any h hl
  have HM := Lib.hid hm
  have HNI := Lib.hid (fun (W : World) B => eql_func_nil9 (P := Try.prog) W (t := 96) (.func 105) #[] (rangeL B) Try.underlying96)
  clear hm h hl
  refine (callsIn_wide (n := 6)).1 ?_
  refine callsIn_of_wp_marks Try.func19 rfl trivial ?_ rfl
  simp only [Try.ntmps19, List.size_toArray, List.length_cons, List.length_nil, Nat.reduceAdd, Nat.reduceSub, Array.replicate_succ, Array.replicate_zero, List.push_toArray, List.append_toArray, List.nil_append, List.cons_append]
  gi_wp2_with fail
  refine ⟨trivial, ?_⟩
  refine (callsIn_wide.2 HM.out).mono ?_
  rintro e w1 ⟨T, sm, ms, rfl, hmade, hx1⟩
  obtain ⟨p, hp⟩ := rootV_ptr T
  dsimp only [treeV]
  rw [hp]
  obtain ⟨es, hes⟩ : ∃ es, putAll [] (xs.map LE.ent) = es := ⟨_, rfl⟩
  rw [hes] at hmade
  have HMA := Lib.hid hmade
  have HX1 := Lib.hid hx1
  have HP := Lib.hid hp
  have HAL := Lib.hid (show ∀ W, Calls Try.prog 64 #[.agg #[.pointer p]] W (RangePost T ByteArray.empty ByteArray.empty true W) from fun W => by have := all_any8 W T; rwa [treeV, hp] at this)
  have HLA := Lib.hid (show es.length ≤ 400 from hmade.few)
  clear HM hmade hx1 hes hp
  gi_wp2_with fail
  generalize hW2 : World.alloc (World.alloc w1 _) _ = W2
  obtain ⟨hx12, hz12, hbt, hbg⟩ := two_blocks w1 _ _ _ _ W2 hW2
  have HX12 := Lib.hid hx12
  have HBT := Lib.hid hbt
  have HBG := Lib.hid hbg
  have ct : W2.cell? ⟨w1.heap.size, 0, none⟩ = some (.pointer p) := hbt.cell 0
  have hs12 := hx12.size
  have hbgl : w1.heap.size + 1 < W2.heap.size := hbg.lt
  clear hW2 hx12 hz12 hbt hbg
  try gi_wp2_with fail
  refine ⟨trivial, ?_⟩
  refine (callsIn_wide.2 (HAL.out W2)).mono ?_
  rintro e w4 ⟨B, rfl, hx4, hrb, hB⟩
  have HX4 := Lib.hid hx4
  have HBG4 := Lib.hid (HBG.out.ext hx4)
  have HBT4 := Lib.hid (HBT.out.ext hx4)
  have hE14 := HX12.out.trans hx4
  have HE14 := Lib.hid hE14
  have hseq := range_seq (F := Lt w1.heap.size) (HMA.out.at_.ext hE14) HMA.out.ok (by rw [HMA.out.ents]; have := HLA.out; omega) hrb
  rw [rangeE_all, HMA.out.ents] at hseq
  have HSQ := Lib.hid hseq
  have hBl := hrb.lt
  have hs4 := hx4.size
  have n4 := HNI.out w4 B
  have hl1 : w1.heap.size + 1 < w4.heap.size := by omega
  clear hx4 hrb ct hseq hE14
  gi_wp2_with fail
  refine wpIn_rangeC (gf := 105) (lb := rangeL B) rfl (enters_of Try.func105 (by kernel_rfl) rfl) HSQ.out (Agree.refl _) (Nat.le_refl _)
    (fun b hb => hb.elim (fun h => by have h : b < w1.heap.size := h; omega) (fun h => by omega)) (fun _ => rfl)
    (fun pre C W => Coll w4 (w1.heap.size + 1) (pre.map LE.ent) C W) (fun _ _ _ => False) (fun b => b = w1.heap.size + 1)
    (fun b hb => ⟨by omega, fun h => h.elim (fun h => by have h : b < w1.heap.size := h; omega) (fun h => by omega)⟩)
    (fun h k => h.turn hl1 k) (fun h k => h) (fun W hW hz => Coll.start HBG4.out hW hz) ?round ?done ?stop
  case round =>
    rintro pre C x W0' W1 ⟨⟨s, ys, rfl, hblk, ho, hes⟩, hst, hsz'⟩ hlt hsz hnL hx01 hG
    obtain ⟨es', hes'⟩ : ∃ es', pre.map LE.ent = es' := ⟨_, rfl⟩
    have hyl : ys.length < 1000000 := by
      have h1 := (List.getElem?_eq_some_iff.1 hG.at_).1
      have h2 : ys.length = pre.length := by have := congrArg List.length hes; simpa using this
      have := HLA.out
      omega
    have hsn : (pre ++ [x]).map LE.ent = es' ++ [x.ent] := by rw [List.map_append, hes']; rfl
    rw [hes'] at hes
    have hb3 := Blk.new W1 49 (cells6 x)
    have hx3 : Ext W1 (W1.alloc (.cells (cells6 x) 49)) := (Ext.refl W1).alloc _ _
    have HB3 := Lib.hid hb3
    have HX3 := Lib.hid hx3
    have HBLK := Lib.hid hblk
    have HO := Lib.hid ho
    have HES := Lib.hid hes
    have HST := Lib.hid hst
    have HX01 := Lib.hid hx01
    have HG := Lib.hid hG
    have HSN := Lib.hid hsn
    clear hb3 hx3 hblk ho hes hst hx01 hG hnL hlt hes' hsn
    gi_wp2_with fail
    refine ⟨HX3.out, fun W3 k3 => ?_⟩
    have h03 := ((HX01.out.trans HX3.out).st _).trans k3
    have hs03 := h03.size
    have hs01 := HX01.out.size
    have hbv := k3.blk HB3.out (by omega)
    obtain ⟨c0, c1, c2, c3, c4, c5⟩ := hbv.c6
    have lv := hbv.lt
    have hgb := h03.blk HBLK.out (by omega)
    have cg : W3.cell? ⟨w1.heap.size + 1, 0, none⟩ = some (.slice s.a ys.length s.c) := hgb.cell 0
    have fg := Lib.hid (hgb.frozen 0)
    have lg := hgb.lt
    have hrow0 : ∀ b, s.row = some b → w4.heap.size + 2 ≤ b ∧ b < W0'.heap.size := fun b hb => own_row HO.out.own hb
    have hx34 : Ext W3 (W3.drew.alloc (.cells zero7 56)) := ((Ext.refl W3).drew).alloc _ _
    have ho3 : OE W3 (w4.heap.size + 2) s ys := HO.out.agree' (h03.agree.mono fun i hi => ⟨hi.2, by have := hi.1; omega⟩) h03.size
    have HOWN4 := Lib.hid (ho3.ext hx34).own
    have HZB := Lib.hid (Rd.block (size := 7) (n := 1) (cs := zeroL) (Blk.new W3.drew 56 zero7) (by decide) rfl)
    have hrv : RV W3 (In W0'.heap.size W3.heap.size) x.v x.sl x.so := ((HG.out.val.agree (HX3.out.agree fun b hb => hb.2)).agree (k3.agree.mono fun i hi => ⟨Nat.lt_of_lt_of_le hi.2 HX3.out.size, by have := hi.1; omega⟩)).mono fun i hi => ⟨hi.1, Nat.lt_of_lt_of_le hi.2 (Nat.le_trans HX3.out.size k3.size)⟩
    have h63 : ys.length + 1 ≤ maxLen := by unfold maxLen; omega
    have hby : (ys.length + 1) * 104 ≤ 140737488355328 := by omega
    have hbase : w4.heap.size + 2 ≤ (W3.drew.alloc (.cells zero7 56)).heap.size := by rw [World.size_alloc, World.size_drew]; omega
    have hz1 : ∀ u ∈ zeroL, u.oneCell' = true := by intro u hu; simp only [zeroL, List.mem_cons, List.not_mem_nil, or_false] at hu; rcases hu with rfl | rfl | rfl | rfl | rfl | rfl | rfl <;> rfl
    have H03 := Lib.hid h03
    have HRV := Lib.hid hrv
    have HX34 := Lib.hid hx34
    have HGB := Lib.hid hgb
    have hne1 : ¬ w1.heap.size + 1 = W1.heap.size := by omega
    have hix : (ys.length : Int) < (ys.length : Int) + 1 := by omega
    have hsW1 : W0'.heap.size ≤ W1.heap.size := hs01
    clear k3 h03 hbv hgb hx34 ho3 hrv
    gi_wp2_with fail
    refine wpIn_region_round (S := (fun _ => True)) (by kernel_rfl) (by rintro ⟨a, w, h⟩; exact h) (by kernel_rfl) (trivial) (fun hHeld => ?_)
    refine held_on (i := 1) (d := (some 27)) (v := ?_) rfl rfl (by kernel_rfl) (by kernel_rfl) (by kernel_rfl) (fun _ _ _ h => h) (by rfl) hHeld ?_ ?_
    rotate_left
    focus (intro w hSw; (try dsimp only at hSw); go_simp; first | done | with_reducible rfl)
    try simp only [Act.put, List.setIfInBounds_toArray, List.set_cons_zero, List.set_cons_succ]
    refine held_three (i := 0) (j := 2) (k := 5) (by kernel_rfl) rfl rfl rfl (by rfl) (by rfl) (by rfl) (fun K hK => ?_) (fun K hK => ?_) (fun K hK => ?_)
    · go_simp
      skip
      refine hK.out _ _ (trivial) (fun hHeld => ?_)
      clear hK K
      try simp only [Act.put, List.setIfInBounds_toArray, List.set_cons_zero, List.set_cons_succ]
      refine held_on (i := 4) (d := (some 30)) (v := ?_) rfl rfl (by kernel_rfl) (by kernel_rfl) (by kernel_rfl) (fun _ _ _ h => h) (by rfl) hHeld ?_ ?_
      rotate_left
      focus (intro w hSw; (try dsimp only at hSw); go_simp; first | done | with_reducible rfl)
      try simp only [Act.put, List.setIfInBounds_toArray, List.set_cons_zero, List.set_cons_succ]
      refine held_two (i := 2) (j := 5) (by kernel_rfl) rfl rfl (by rfl) (by rfl) (fun K hK => ?_) (fun K hK => ?_)
      · go_simp
        skip
        refine hK.out _ _ (trivial) (fun hHeld => ?_)
        clear hK K
        try simp only [Act.put, List.setIfInBounds_toArray, List.set_cons_zero, List.set_cons_succ]
        refine held_on (i := 3) (d := (some 29)) (v := ?_) rfl rfl (by kernel_rfl) (by kernel_rfl) (by kernel_rfl) (fun _ _ _ h => h) (by rfl) hHeld ?_ ?_
        rotate_left
        focus (intro w hSw; (try dsimp only at hSw); go_simp; first | done | with_reducible rfl)
        try simp only [Act.put, List.setIfInBounds_toArray, List.set_cons_zero, List.set_cons_succ]
        refine held_call (i := 5) (by kernel_rfl) rfl (by rfl) (fun K hK => ?_)
        go_simp
        skip
        refine hK.out _ _ (trivial) (fun hHeld => ?_)
        clear hK K
        try simp only [Act.put, List.setIfInBounds_toArray, List.set_cons_zero, List.set_cons_succ]
        refine held_call (i := 6) (by kernel_rfl) rfl (by rfl) (fun K hK => ?_)
        skip
        refine wp_append_x _ (.tmp 26) (.tmp 31) 53 rfl (w4.heap.size + 2) 56 i0 _ 7 104 Try.underlying53 hi hz0 hz1' hz2 rfl (by decide) s ys.length (flatE ys) (by rfl) HOWN4.out (fun b => b = W3.heap.size) ⟨some ⟨W3.heap.size, 0, none⟩, 1⟩ 1 zeroL (by rfl) HZB.out hz1 h63 hby hbase ?_; intro s3 w5 hown5 hwr5 hs5; obtain ⟨g, cap, rfl, hbg, hnc, hcm, lg5, fg5, z0, z1, z2, z3, z4, z5, z6⟩ := row_zero hown5 (flatE_len ys); have h5 := hwr5.cell0 (o := 0) HX34.out (fun e => by have := (hrow0 _ e).1; omega) lg; have cB5 := h5.1.trans cg; have lB5 := h5.2; have fB5 := (hwr5.fz (w1.heap.size + 1) 0).trans ((HX34.out.frozen (o := 0) lg).trans fg.out); have hgB : ¬ g = w1.heap.size + 1 := (by omega); have hBg : ¬ w1.heap.size + 1 = g := (by omega); have HOW := Lib.hid hown5; have HWR := Lib.hid hwr5; have HS5 := Lib.hid hs5; clear hown5 hwr5 hs5 h5
        refine hK.out _ _ (trivial) (fun hHeld => ?_)
        clear hK K
        try simp only [Act.put, List.setIfInBounds_toArray, List.set_cons_zero, List.set_cons_succ]
        refine held_on (i := 7) (d := (some 33)) (v := ?_) rfl rfl (by kernel_rfl) (by kernel_rfl) (by kernel_rfl) (fun _ _ _ h => h) (by rfl) hHeld ?_ ?_
        rotate_left
        focus (intro w hSw; (try dsimp only at hSw); go_simp; first | done | with_reducible rfl)
        try simp only [Act.put, List.setIfInBounds_toArray, List.set_cons_zero, List.set_cons_succ]
        refine held_two (i := 8) (j := 9) (by kernel_rfl) rfl rfl (by rfl) (by rfl) (fun K hK => ?_) (fun K hK => ?_)
        · go_simp
          skip
          refine hK.out _ _ (trivial) (fun hHeld => ?_)
          clear hK K
          try simp only [Act.put, List.setIfInBounds_toArray, List.set_cons_zero, List.set_cons_succ]
          refine held_call (i := 9) (by kernel_rfl) rfl (by rfl) (fun K hK => ?_)
          go_simp
          skip
          refine hK.out _ _ (trivial) (fun hHeld => ?_)
          clear hK K
          try simp only [Act.put, List.setIfInBounds_toArray, List.set_cons_zero, List.set_cons_succ]
          refine wpAnyH_done (by kernel_rfl) ?_ _
          gi_wp2_with fail
          have hL := (coll_leaf1 hl1 HBLK.out HO.out HES.out HST.out hsz' H03.out HRV.out HG.out.key HX34.out HWR.out HS5.out hby HOW.out).1
          rw [← HSN.out] at hL
          exact hL
        · go_simp
          skip
          refine hK.out _ _ (trivial) (fun hHeld => ?_)
          clear hK K
          try simp only [Act.put, List.setIfInBounds_toArray, List.set_cons_zero, List.set_cons_succ]
          refine held_call (i := 8) (by kernel_rfl) rfl (by rfl) (fun K hK => ?_)
          go_simp
          skip
          refine hK.out _ _ (trivial) (fun hHeld => ?_)
          clear hK K
          try simp only [Act.put, List.setIfInBounds_toArray, List.set_cons_zero, List.set_cons_succ]
          refine wpAnyH_done (by kernel_rfl) ?_ _
          gi_wp2_with fail
          have hL := (coll_leaf1 hl1 HBLK.out HO.out HES.out HST.out hsz' H03.out HRV.out HG.out.key HX34.out HWR.out HS5.out hby HOW.out).2
          rw [← HSN.out] at hL
          exact hL
      · go_simp
        skip
        refine hK.out _ _ (trivial) (fun hHeld => ?_)
        clear hK K
        try simp only [Act.put, List.setIfInBounds_toArray, List.set_cons_zero, List.set_cons_succ]
        refine held_call (i := 2) (by kernel_rfl) rfl (by rfl) (fun K hK => ?_)
        go_simp
        skip
        refine hK.out _ _ (trivial) (fun hHeld => ?_)
        clear hK K
        try simp only [Act.put, List.setIfInBounds_toArray, List.set_cons_zero, List.set_cons_succ]
        refine held_on (i := 3) (d := (some 29)) (v := ?_) rfl rfl (by kernel_rfl) (by kernel_rfl) (by kernel_rfl) (fun _ _ _ h => h) (by rfl) hHeld ?_ ?_
        rotate_left
        focus (intro w hSw; (try dsimp only at hSw); go_simp; first | done | with_reducible rfl)
        try simp only [Act.put, List.setIfInBounds_toArray, List.set_cons_zero, List.set_cons_succ]
        refine held_call (i := 6) (by kernel_rfl) rfl (by rfl) (fun K hK => ?_)
        skip
        refine wp_append_x _ (.tmp 26) (.tmp 31) 53 rfl (w4.heap.size + 2) 56 i0 _ 7 104 Try.underlying53 hi hz0 hz1' hz2 rfl (by decide) s ys.length (flatE ys) (by rfl) HOWN4.out (fun b => b = W3.heap.size) ⟨some ⟨W3.heap.size, 0, none⟩, 1⟩ 1 zeroL (by rfl) HZB.out hz1 h63 hby hbase ?_; intro s3 w5 hown5 hwr5 hs5; obtain ⟨g, cap, rfl, hbg, hnc, hcm, lg5, fg5, z0, z1, z2, z3, z4, z5, z6⟩ := row_zero hown5 (flatE_len ys); have h5 := hwr5.cell0 (o := 0) HX34.out (fun e => by have := (hrow0 _ e).1; omega) lg; have cB5 := h5.1.trans cg; have lB5 := h5.2; have fB5 := (hwr5.fz (w1.heap.size + 1) 0).trans ((HX34.out.frozen (o := 0) lg).trans fg.out); have hgB : ¬ g = w1.heap.size + 1 := (by omega); have hBg : ¬ w1.heap.size + 1 = g := (by omega); have HOW := Lib.hid hown5; have HWR := Lib.hid hwr5; have HS5 := Lib.hid hs5; clear hown5 hwr5 hs5 h5
        refine hK.out _ _ (trivial) (fun hHeld => ?_)
        clear hK K
        try simp only [Act.put, List.setIfInBounds_toArray, List.set_cons_zero, List.set_cons_succ]
        refine held_on (i := 7) (d := (some 33)) (v := ?_) rfl rfl (by kernel_rfl) (by kernel_rfl) (by kernel_rfl) (fun _ _ _ h => h) (by rfl) hHeld ?_ ?_
        rotate_left
        focus (intro w hSw; (try dsimp only at hSw); go_simp; first | done | with_reducible rfl)
        try simp only [Act.put, List.setIfInBounds_toArray, List.set_cons_zero, List.set_cons_succ]
        refine held_two (i := 8) (j := 9) (by kernel_rfl) rfl rfl (by rfl) (by rfl) (fun K hK => ?_) (fun K hK => ?_)
        · go_simp
          skip
          refine hK.out _ _ (trivial) (fun hHeld => ?_)
          clear hK K
          try simp only [Act.put, List.setIfInBounds_toArray, List.set_cons_zero, List.set_cons_succ]
          refine held_call (i := 9) (by kernel_rfl) rfl (by rfl) (fun K hK => ?_)
          go_simp
          skip
          refine hK.out _ _ (trivial) (fun hHeld => ?_)
          clear hK K
          try simp only [Act.put, List.setIfInBounds_toArray, List.set_cons_zero, List.set_cons_succ]
          refine wpAnyH_done (by kernel_rfl) ?_ _
          gi_wp2_with fail
          have hL := (coll_leaf1 hl1 HBLK.out HO.out HES.out HST.out hsz' H03.out HRV.out HG.out.key HX34.out HWR.out HS5.out hby HOW.out).1
          rw [← HSN.out] at hL
          exact hL
        · go_simp
          skip
          refine hK.out _ _ (trivial) (fun hHeld => ?_)
          clear hK K
          try simp only [Act.put, List.setIfInBounds_toArray, List.set_cons_zero, List.set_cons_succ]
          refine held_call (i := 8) (by kernel_rfl) rfl (by rfl) (fun K hK => ?_)
          go_simp
          skip
          refine hK.out _ _ (trivial) (fun hHeld => ?_)
          clear hK K
          try simp only [Act.put, List.setIfInBounds_toArray, List.set_cons_zero, List.set_cons_succ]
          refine wpAnyH_done (by kernel_rfl) ?_ _
          gi_wp2_with fail
          have hL := (coll_leaf1 hl1 HBLK.out HO.out HES.out HST.out hsz' H03.out HRV.out HG.out.key HX34.out HWR.out HS5.out hby HOW.out).2
          rw [← HSN.out] at hL
          exact hL
    · go_simp
      skip
      refine hK.out _ _ (trivial) (fun hHeld => ?_)
      clear hK K
      try simp only [Act.put, List.setIfInBounds_toArray, List.set_cons_zero, List.set_cons_succ]
      refine held_on (i := 3) (d := (some 29)) (v := ?_) rfl rfl (by kernel_rfl) (by kernel_rfl) (by kernel_rfl) (fun _ _ _ h => h) (by rfl) hHeld ?_ ?_
      rotate_left
      focus (intro w hSw; (try dsimp only at hSw); go_simp; first | done | with_reducible rfl)
      try simp only [Act.put, List.setIfInBounds_toArray, List.set_cons_zero, List.set_cons_succ]
      refine held_two (i := 0) (j := 5) (by kernel_rfl) rfl rfl (by rfl) (by rfl) (fun K hK => ?_) (fun K hK => ?_)
      · go_simp
        skip
        refine hK.out _ _ (trivial) (fun hHeld => ?_)
        clear hK K
        try simp only [Act.put, List.setIfInBounds_toArray, List.set_cons_zero, List.set_cons_succ]
        refine held_on (i := 4) (d := (some 30)) (v := ?_) rfl rfl (by kernel_rfl) (by kernel_rfl) (by kernel_rfl) (fun _ _ _ h => h) (by rfl) hHeld ?_ ?_
        rotate_left
        focus (intro w hSw; (try dsimp only at hSw); go_simp; first | done | with_reducible rfl)
        try simp only [Act.put, List.setIfInBounds_toArray, List.set_cons_zero, List.set_cons_succ]
        refine held_call (i := 5) (by kernel_rfl) rfl (by rfl) (fun K hK => ?_)
        go_simp
        skip
        refine hK.out _ _ (trivial) (fun hHeld => ?_)
        clear hK K
        try simp only [Act.put, List.setIfInBounds_toArray, List.set_cons_zero, List.set_cons_succ]
        refine held_call (i := 6) (by kernel_rfl) rfl (by rfl) (fun K hK => ?_)
        skip
        refine wp_append_x _ (.tmp 26) (.tmp 31) 53 rfl (w4.heap.size + 2) 56 i0 _ 7 104 Try.underlying53 hi hz0 hz1' hz2 rfl (by decide) s ys.length (flatE ys) (by rfl) HOWN4.out (fun b => b = W3.heap.size) ⟨some ⟨W3.heap.size, 0, none⟩, 1⟩ 1 zeroL (by rfl) HZB.out hz1 h63 hby hbase ?_; intro s3 w5 hown5 hwr5 hs5; obtain ⟨g, cap, rfl, hbg, hnc, hcm, lg5, fg5, z0, z1, z2, z3, z4, z5, z6⟩ := row_zero hown5 (flatE_len ys); have h5 := hwr5.cell0 (o := 0) HX34.out (fun e => by have := (hrow0 _ e).1; omega) lg; have cB5 := h5.1.trans cg; have lB5 := h5.2; have fB5 := (hwr5.fz (w1.heap.size + 1) 0).trans ((HX34.out.frozen (o := 0) lg).trans fg.out); have hgB : ¬ g = w1.heap.size + 1 := (by omega); have hBg : ¬ w1.heap.size + 1 = g := (by omega); have HOW := Lib.hid hown5; have HWR := Lib.hid hwr5; have HS5 := Lib.hid hs5; clear hown5 hwr5 hs5 h5
        refine hK.out _ _ (trivial) (fun hHeld => ?_)
        clear hK K
        try simp only [Act.put, List.setIfInBounds_toArray, List.set_cons_zero, List.set_cons_succ]
        refine held_on (i := 7) (d := (some 33)) (v := ?_) rfl rfl (by kernel_rfl) (by kernel_rfl) (by kernel_rfl) (fun _ _ _ h => h) (by rfl) hHeld ?_ ?_
        rotate_left
        focus (intro w hSw; (try dsimp only at hSw); go_simp; first | done | with_reducible rfl)
        try simp only [Act.put, List.setIfInBounds_toArray, List.set_cons_zero, List.set_cons_succ]
        refine held_two (i := 8) (j := 9) (by kernel_rfl) rfl rfl (by rfl) (by rfl) (fun K hK => ?_) (fun K hK => ?_)
        · go_simp
          skip
          refine hK.out _ _ (trivial) (fun hHeld => ?_)
          clear hK K
          try simp only [Act.put, List.setIfInBounds_toArray, List.set_cons_zero, List.set_cons_succ]
          refine held_call (i := 9) (by kernel_rfl) rfl (by rfl) (fun K hK => ?_)
          go_simp
          skip
          refine hK.out _ _ (trivial) (fun hHeld => ?_)
          clear hK K
          try simp only [Act.put, List.setIfInBounds_toArray, List.set_cons_zero, List.set_cons_succ]
          refine wpAnyH_done (by kernel_rfl) ?_ _
          gi_wp2_with fail
          have hL := (coll_leaf1 hl1 HBLK.out HO.out HES.out HST.out hsz' H03.out HRV.out HG.out.key HX34.out HWR.out HS5.out hby HOW.out).1
          rw [← HSN.out] at hL
          exact hL
        · go_simp
          skip
          refine hK.out _ _ (trivial) (fun hHeld => ?_)
          clear hK K
          try simp only [Act.put, List.setIfInBounds_toArray, List.set_cons_zero, List.set_cons_succ]
          refine held_call (i := 8) (by kernel_rfl) rfl (by rfl) (fun K hK => ?_)
          go_simp
          skip
          refine hK.out _ _ (trivial) (fun hHeld => ?_)
          clear hK K
          try simp only [Act.put, List.setIfInBounds_toArray, List.set_cons_zero, List.set_cons_succ]
          refine wpAnyH_done (by kernel_rfl) ?_ _
          gi_wp2_with fail
          have hL := (coll_leaf1 hl1 HBLK.out HO.out HES.out HST.out hsz' H03.out HRV.out HG.out.key HX34.out HWR.out HS5.out hby HOW.out).2
          rw [← HSN.out] at hL
          exact hL
      · go_simp
        skip
        refine hK.out _ _ (trivial) (fun hHeld => ?_)
        clear hK K
        try simp only [Act.put, List.setIfInBounds_toArray, List.set_cons_zero, List.set_cons_succ]
        refine held_call (i := 0) (by kernel_rfl) rfl (by rfl) (fun K hK => ?_)
        go_simp
        skip
        refine hK.out _ _ (trivial) (fun hHeld => ?_)
        clear hK K
        try simp only [Act.put, List.setIfInBounds_toArray, List.set_cons_zero, List.set_cons_succ]
        refine held_on (i := 4) (d := (some 30)) (v := ?_) rfl rfl (by kernel_rfl) (by kernel_rfl) (by kernel_rfl) (fun _ _ _ h => h) (by rfl) hHeld ?_ ?_
        rotate_left
        focus (intro w hSw; (try dsimp only at hSw); go_simp; first | done | with_reducible rfl)
        try simp only [Act.put, List.setIfInBounds_toArray, List.set_cons_zero, List.set_cons_succ]
        refine held_call (i := 6) (by kernel_rfl) rfl (by rfl) (fun K hK => ?_)
        skip
        refine wp_append_x _ (.tmp 26) (.tmp 31) 53 rfl (w4.heap.size + 2) 56 i0 _ 7 104 Try.underlying53 hi hz0 hz1' hz2 rfl (by decide) s ys.length (flatE ys) (by rfl) HOWN4.out (fun b => b = W3.heap.size) ⟨some ⟨W3.heap.size, 0, none⟩, 1⟩ 1 zeroL (by rfl) HZB.out hz1 h63 hby hbase ?_; intro s3 w5 hown5 hwr5 hs5; obtain ⟨g, cap, rfl, hbg, hnc, hcm, lg5, fg5, z0, z1, z2, z3, z4, z5, z6⟩ := row_zero hown5 (flatE_len ys); have h5 := hwr5.cell0 (o := 0) HX34.out (fun e => by have := (hrow0 _ e).1; omega) lg; have cB5 := h5.1.trans cg; have lB5 := h5.2; have fB5 := (hwr5.fz (w1.heap.size + 1) 0).trans ((HX34.out.frozen (o := 0) lg).trans fg.out); have hgB : ¬ g = w1.heap.size + 1 := (by omega); have hBg : ¬ w1.heap.size + 1 = g := (by omega); have HOW := Lib.hid hown5; have HWR := Lib.hid hwr5; have HS5 := Lib.hid hs5; clear hown5 hwr5 hs5 h5
        refine hK.out _ _ (trivial) (fun hHeld => ?_)
        clear hK K
        try simp only [Act.put, List.setIfInBounds_toArray, List.set_cons_zero, List.set_cons_succ]
        refine held_on (i := 7) (d := (some 33)) (v := ?_) rfl rfl (by kernel_rfl) (by kernel_rfl) (by kernel_rfl) (fun _ _ _ h => h) (by rfl) hHeld ?_ ?_
        rotate_left
        focus (intro w hSw; (try dsimp only at hSw); go_simp; first | done | with_reducible rfl)
        try simp only [Act.put, List.setIfInBounds_toArray, List.set_cons_zero, List.set_cons_succ]
        refine held_two (i := 8) (j := 9) (by kernel_rfl) rfl rfl (by rfl) (by rfl) (fun K hK => ?_) (fun K hK => ?_)
        · go_simp
          skip
          refine hK.out _ _ (trivial) (fun hHeld => ?_)
          clear hK K
          try simp only [Act.put, List.setIfInBounds_toArray, List.set_cons_zero, List.set_cons_succ]
          refine held_call (i := 9) (by kernel_rfl) rfl (by rfl) (fun K hK => ?_)
          go_simp
          skip
          refine hK.out _ _ (trivial) (fun hHeld => ?_)
          clear hK K
          try simp only [Act.put, List.setIfInBounds_toArray, List.set_cons_zero, List.set_cons_succ]
          refine wpAnyH_done (by kernel_rfl) ?_ _
          gi_wp2_with fail
          have hL := (coll_leaf1 hl1 HBLK.out HO.out HES.out HST.out hsz' H03.out HRV.out HG.out.key HX34.out HWR.out HS5.out hby HOW.out).1
          rw [← HSN.out] at hL
          exact hL
        · go_simp
          skip
          refine hK.out _ _ (trivial) (fun hHeld => ?_)
          clear hK K
          try simp only [Act.put, List.setIfInBounds_toArray, List.set_cons_zero, List.set_cons_succ]
          refine held_call (i := 8) (by kernel_rfl) rfl (by rfl) (fun K hK => ?_)
          go_simp
          skip
          refine hK.out _ _ (trivial) (fun hHeld => ?_)
          clear hK K
          try simp only [Act.put, List.setIfInBounds_toArray, List.set_cons_zero, List.set_cons_succ]
          refine wpAnyH_done (by kernel_rfl) ?_ _
          gi_wp2_with fail
          have hL := (coll_leaf1 hl1 HBLK.out HO.out HES.out HST.out hsz' H03.out HRV.out HG.out.key HX34.out HWR.out HS5.out hby HOW.out).2
          rw [← HSN.out] at hL
          exact hL
    · go_simp
      skip
      refine hK.out _ _ (trivial) (fun hHeld => ?_)
      clear hK K
      try simp only [Act.put, List.setIfInBounds_toArray, List.set_cons_zero, List.set_cons_succ]
      refine held_two (i := 0) (j := 2) (by kernel_rfl) rfl rfl (by rfl) (by rfl) (fun K hK => ?_) (fun K hK => ?_)
      · go_simp
        skip
        refine hK.out _ _ (trivial) (fun hHeld => ?_)
        clear hK K
        try simp only [Act.put, List.setIfInBounds_toArray, List.set_cons_zero, List.set_cons_succ]
        refine held_on (i := 4) (d := (some 30)) (v := ?_) rfl rfl (by kernel_rfl) (by kernel_rfl) (by kernel_rfl) (fun _ _ _ h => h) (by rfl) hHeld ?_ ?_
        rotate_left
        focus (intro w hSw; (try dsimp only at hSw); go_simp; first | done | with_reducible rfl)
        try simp only [Act.put, List.setIfInBounds_toArray, List.set_cons_zero, List.set_cons_succ]
        refine held_call (i := 2) (by kernel_rfl) rfl (by rfl) (fun K hK => ?_)
        go_simp
        skip
        refine hK.out _ _ (trivial) (fun hHeld => ?_)
        clear hK K
        try simp only [Act.put, List.setIfInBounds_toArray, List.set_cons_zero, List.set_cons_succ]
        refine held_on (i := 3) (d := (some 29)) (v := ?_) rfl rfl (by kernel_rfl) (by kernel_rfl) (by kernel_rfl) (fun _ _ _ h => h) (by rfl) hHeld ?_ ?_
        rotate_left
        focus (intro w hSw; (try dsimp only at hSw); go_simp; first | done | with_reducible rfl)
        try simp only [Act.put, List.setIfInBounds_toArray, List.set_cons_zero, List.set_cons_succ]
        refine held_call (i := 6) (by kernel_rfl) rfl (by rfl) (fun K hK => ?_)
        skip
        refine wp_append_x _ (.tmp 26) (.tmp 31) 53 rfl (w4.heap.size + 2) 56 i0 _ 7 104 Try.underlying53 hi hz0 hz1' hz2 rfl (by decide) s ys.length (flatE ys) (by rfl) HOWN4.out (fun b => b = W3.heap.size) ⟨some ⟨W3.heap.size, 0, none⟩, 1⟩ 1 zeroL (by rfl) HZB.out hz1 h63 hby hbase ?_; intro s3 w5 hown5 hwr5 hs5; obtain ⟨g, cap, rfl, hbg, hnc, hcm, lg5, fg5, z0, z1, z2, z3, z4, z5, z6⟩ := row_zero hown5 (flatE_len ys); have h5 := hwr5.cell0 (o := 0) HX34.out (fun e => by have := (hrow0 _ e).1; omega) lg; have cB5 := h5.1.trans cg; have lB5 := h5.2; have fB5 := (hwr5.fz (w1.heap.size + 1) 0).trans ((HX34.out.frozen (o := 0) lg).trans fg.out); have hgB : ¬ g = w1.heap.size + 1 := (by omega); have hBg : ¬ w1.heap.size + 1 = g := (by omega); have HOW := Lib.hid hown5; have HWR := Lib.hid hwr5; have HS5 := Lib.hid hs5; clear hown5 hwr5 hs5 h5
        refine hK.out _ _ (trivial) (fun hHeld => ?_)
        clear hK K
        try simp only [Act.put, List.setIfInBounds_toArray, List.set_cons_zero, List.set_cons_succ]
        refine held_on (i := 7) (d := (some 33)) (v := ?_) rfl rfl (by kernel_rfl) (by kernel_rfl) (by kernel_rfl) (fun _ _ _ h => h) (by rfl) hHeld ?_ ?_
        rotate_left
        focus (intro w hSw; (try dsimp only at hSw); go_simp; first | done | with_reducible rfl)
        try simp only [Act.put, List.setIfInBounds_toArray, List.set_cons_zero, List.set_cons_succ]
        refine held_two (i := 8) (j := 9) (by kernel_rfl) rfl rfl (by rfl) (by rfl) (fun K hK => ?_) (fun K hK => ?_)
        · go_simp
          skip
          refine hK.out _ _ (trivial) (fun hHeld => ?_)
          clear hK K
          try simp only [Act.put, List.setIfInBounds_toArray, List.set_cons_zero, List.set_cons_succ]
          refine held_call (i := 9) (by kernel_rfl) rfl (by rfl) (fun K hK => ?_)
          go_simp
          skip
          refine hK.out _ _ (trivial) (fun hHeld => ?_)
          clear hK K
          try simp only [Act.put, List.setIfInBounds_toArray, List.set_cons_zero, List.set_cons_succ]
          refine wpAnyH_done (by kernel_rfl) ?_ _
          gi_wp2_with fail
          have hL := (coll_leaf1 hl1 HBLK.out HO.out HES.out HST.out hsz' H03.out HRV.out HG.out.key HX34.out HWR.out HS5.out hby HOW.out).1
          rw [← HSN.out] at hL
          exact hL
        · go_simp
          skip
          refine hK.out _ _ (trivial) (fun hHeld => ?_)
          clear hK K
          try simp only [Act.put, List.setIfInBounds_toArray, List.set_cons_zero, List.set_cons_succ]
          refine held_call (i := 8) (by kernel_rfl) rfl (by rfl) (fun K hK => ?_)
          go_simp
          skip
          refine hK.out _ _ (trivial) (fun hHeld => ?_)
          clear hK K
          try simp only [Act.put, List.setIfInBounds_toArray, List.set_cons_zero, List.set_cons_succ]
          refine wpAnyH_done (by kernel_rfl) ?_ _
          gi_wp2_with fail
          have hL := (coll_leaf1 hl1 HBLK.out HO.out HES.out HST.out hsz' H03.out HRV.out HG.out.key HX34.out HWR.out HS5.out hby HOW.out).2
          rw [← HSN.out] at hL
          exact hL
      · go_simp
        skip
        refine hK.out _ _ (trivial) (fun hHeld => ?_)
        clear hK K
        try simp only [Act.put, List.setIfInBounds_toArray, List.set_cons_zero, List.set_cons_succ]
        refine held_on (i := 3) (d := (some 29)) (v := ?_) rfl rfl (by kernel_rfl) (by kernel_rfl) (by kernel_rfl) (fun _ _ _ h => h) (by rfl) hHeld ?_ ?_
        rotate_left
        focus (intro w hSw; (try dsimp only at hSw); go_simp; first | done | with_reducible rfl)
        try simp only [Act.put, List.setIfInBounds_toArray, List.set_cons_zero, List.set_cons_succ]
        refine held_call (i := 0) (by kernel_rfl) rfl (by rfl) (fun K hK => ?_)
        go_simp
        skip
        refine hK.out _ _ (trivial) (fun hHeld => ?_)
        clear hK K
        try simp only [Act.put, List.setIfInBounds_toArray, List.set_cons_zero, List.set_cons_succ]
        refine held_on (i := 4) (d := (some 30)) (v := ?_) rfl rfl (by kernel_rfl) (by kernel_rfl) (by kernel_rfl) (fun _ _ _ h => h) (by rfl) hHeld ?_ ?_
        rotate_left
        focus (intro w hSw; (try dsimp only at hSw); go_simp; first | done | with_reducible rfl)
        try simp only [Act.put, List.setIfInBounds_toArray, List.set_cons_zero, List.set_cons_succ]
        refine held_call (i := 6) (by kernel_rfl) rfl (by rfl) (fun K hK => ?_)
        skip
        refine wp_append_x _ (.tmp 26) (.tmp 31) 53 rfl (w4.heap.size + 2) 56 i0 _ 7 104 Try.underlying53 hi hz0 hz1' hz2 rfl (by decide) s ys.length (flatE ys) (by rfl) HOWN4.out (fun b => b = W3.heap.size) ⟨some ⟨W3.heap.size, 0, none⟩, 1⟩ 1 zeroL (by rfl) HZB.out hz1 h63 hby hbase ?_; intro s3 w5 hown5 hwr5 hs5; obtain ⟨g, cap, rfl, hbg, hnc, hcm, lg5, fg5, z0, z1, z2, z3, z4, z5, z6⟩ := row_zero hown5 (flatE_len ys); have h5 := hwr5.cell0 (o := 0) HX34.out (fun e => by have := (hrow0 _ e).1; omega) lg; have cB5 := h5.1.trans cg; have lB5 := h5.2; have fB5 := (hwr5.fz (w1.heap.size + 1) 0).trans ((HX34.out.frozen (o := 0) lg).trans fg.out); have hgB : ¬ g = w1.heap.size + 1 := (by omega); have hBg : ¬ w1.heap.size + 1 = g := (by omega); have HOW := Lib.hid hown5; have HWR := Lib.hid hwr5; have HS5 := Lib.hid hs5; clear hown5 hwr5 hs5 h5
        refine hK.out _ _ (trivial) (fun hHeld => ?_)
        clear hK K
        try simp only [Act.put, List.setIfInBounds_toArray, List.set_cons_zero, List.set_cons_succ]
        refine held_on (i := 7) (d := (some 33)) (v := ?_) rfl rfl (by kernel_rfl) (by kernel_rfl) (by kernel_rfl) (fun _ _ _ h => h) (by rfl) hHeld ?_ ?_
        rotate_left
        focus (intro w hSw; (try dsimp only at hSw); go_simp; first | done | with_reducible rfl)
        try simp only [Act.put, List.setIfInBounds_toArray, List.set_cons_zero, List.set_cons_succ]
        refine held_two (i := 8) (j := 9) (by kernel_rfl) rfl rfl (by rfl) (by rfl) (fun K hK => ?_) (fun K hK => ?_)
        · go_simp
          skip
          refine hK.out _ _ (trivial) (fun hHeld => ?_)
          clear hK K
          try simp only [Act.put, List.setIfInBounds_toArray, List.set_cons_zero, List.set_cons_succ]
          refine held_call (i := 9) (by kernel_rfl) rfl (by rfl) (fun K hK => ?_)
          go_simp
          skip
          refine hK.out _ _ (trivial) (fun hHeld => ?_)
          clear hK K
          try simp only [Act.put, List.setIfInBounds_toArray, List.set_cons_zero, List.set_cons_succ]
          refine wpAnyH_done (by kernel_rfl) ?_ _
          gi_wp2_with fail
          have hL := (coll_leaf1 hl1 HBLK.out HO.out HES.out HST.out hsz' H03.out HRV.out HG.out.key HX34.out HWR.out HS5.out hby HOW.out).1
          rw [← HSN.out] at hL
          exact hL
        · go_simp
          skip
          refine hK.out _ _ (trivial) (fun hHeld => ?_)
          clear hK K
          try simp only [Act.put, List.setIfInBounds_toArray, List.set_cons_zero, List.set_cons_succ]
          refine held_call (i := 8) (by kernel_rfl) rfl (by rfl) (fun K hK => ?_)
          go_simp
          skip
          refine hK.out _ _ (trivial) (fun hHeld => ?_)
          clear hK K
          try simp only [Act.put, List.setIfInBounds_toArray, List.set_cons_zero, List.set_cons_succ]
          refine wpAnyH_done (by kernel_rfl) ?_ _
          gi_wp2_with fail
          have hL := (coll_leaf1 hl1 HBLK.out HO.out HES.out HST.out hsz' H03.out HRV.out HG.out.key HX34.out HWR.out HS5.out hby HOW.out).2
          rw [← HSN.out] at hL
          exact hL
  case stop =>
    rintro D c pre W hD hSp hX hDk
    exact hX.elim
  case done =>
    rintro D xs' C W hD hS ⟨⟨s', ys, rfl, hblk, ho, hes⟩, hst, hsz⟩ hDk
    have hye : ys.map LE.ent = es := by rw [hes]; exact hS
    have hag : Agree (Lt w1.heap.size) w1 W := (HE14.out.agree fun b hb => hb).trans (hst.agree.mono fun b hb => ⟨by have hb : b < w1.heap.size := hb; omega, by have hb : b < w1.heap.size := hb; omega⟩)
    have hszW := hst.size
    have h14s := HE14.out.size
    have hmW : ES W (Lt W.heap.size) sm ms := (HMA.out.list.agree hag).mono fun i hi => by have hi : i < w1.heap.size := hi; show i < W.heap.size; omega
    have hgW : ES W (Lt W.heap.size) s' ys := ho.es.mono fun i hi => hi.2
    have htW : TreeAt (Lt w1.heap.size) T W := ⟨HMA.out.tree.agree hag, fun b hb => by have hb : b < w1.heap.size := hb; omega⟩
    have hbt := hst.blk HBT4.out (by omega)
    have hsame : ∀ W', Below W.heap.size W W' → Calls Try.prog 54 #[.slice s'.a ys.length s'.c, .slice sm.a ms.length sm.c] W' fun e w' => e = .returned (.bool true) ∧ Ext W' w' := fun W' hb => by
      have := sameEnt_any (Bw.es hgW hb) (Bw.es hmW hb)
      rw [hye, HMA.out.ms_, sameE_refl] at this
      exact this
    have hent : ∀ W', Below W.heap.size W W' → Calls Try.prog 38 #[.agg #[.pointer p]] W' (EntriesPost es W') := fun W' hb => by
      have := treeEntries_any (w := W') (F := Lt W.heap.size) (T := T) (fun b hb' => Nat.lt_of_lt_of_le hb' hb.size) ((htW.1.mono (G := Lt W.heap.size) htW.2).agree (Agree.of_below hb (F := Lt W.heap.size) fun _ h => h)) HMA.out.ok (by rw [HMA.out.ents]; have := HLA.out; omega)
      rwa [treeV, HP.out, HMA.out.ents] at this
    have HSS := Lib.hid (show ∀ W', Below W.heap.size W W' → W'.cell? ⟨w1.heap.size + 1, 0, none⟩ = some (.slice s'.a ys.length s'.c) ∧ W'.cell? ⟨w1.heap.size, 0, none⟩ = some (.pointer p) from fun W' hb => ⟨(Bw.blk hblk hb).cell 0, (Bw.blk hbt hb).cell 0⟩)
    have HSA := Lib.hid hsame
    have HEN := Lib.hid hent
    have HGW := Lib.hid hgW
    have HYE := Lib.hid hye
    have HST := Lib.hid hst
    have HDK := Lib.hid hDk
    have HDD := Lib.hid hD
    clear hye hag hmW hgW htW hbt hsame hent hblk ho hes hst hDk hD hS
    gi_wp2_with fail
    refine wpIn_onlyN (wpIn_wide.2 ?_)
    refine wp_region_held_drew (S := (fun w' => Below W.heap.size W w')) (by kernel_rfl) ((((Ext.refl W).drew).below)) (fun hHeld => ?_)
    refine held_on (i := 0) (d := (some 34)) (v := ?_) rfl rfl (by kernel_rfl) (by kernel_rfl) (by kernel_rfl) (fun _ _ _ h => h) (by rfl) hHeld ?_ ?_
    rotate_left
    focus (intro w hSw; have hSc := HSS.out w hSw; clear hSw; go_simp; first | done | with_reducible rfl)
    try simp only [Act.put, List.setIfInBounds_toArray, List.set_cons_zero, List.set_cons_succ]
    refine held_on (i := 1) (d := (some 35)) (v := ?_) rfl rfl (by kernel_rfl) (by kernel_rfl) (by kernel_rfl) (fun _ _ _ h => h) (by rfl) hHeld ?_ ?_
    rotate_left
    focus (intro w hSw; have hSc := HSS.out w hSw; clear hSw; go_simp; first | done | with_reducible rfl)
    try simp only [Act.put, List.setIfInBounds_toArray, List.set_cons_zero, List.set_cons_succ]
    refine held_call (i := 2) (by kernel_rfl) rfl (by rfl) (fun K hK => ?_)
    go_simp
    (refine (HSA.out _ hHeld).mono ?_; rintro e wa ⟨rfl, hxa⟩)
    refine hK.out _ _ (Bw.ext hHeld hxa) (fun hHeld => ?_)
    clear hK K
    try simp only [Act.put, List.setIfInBounds_toArray, List.set_cons_zero, List.set_cons_succ]
    refine held_on (i := 3) (d := (some 37)) (v := ?_) rfl rfl (by kernel_rfl) (by kernel_rfl) (by kernel_rfl) (fun _ _ _ h => h) (by rfl) hHeld ?_ ?_
    rotate_left
    focus (intro w hSw; have hSc := HSS.out w hSw; clear hSw; go_simp; first | done | with_reducible rfl)
    try simp only [Act.put, List.setIfInBounds_toArray, List.set_cons_zero, List.set_cons_succ]
    refine held_on (i := 4) (d := (some 38)) (v := ?_) rfl rfl (by kernel_rfl) (by kernel_rfl) (by kernel_rfl) (fun _ _ _ h => h) (by rfl) hHeld ?_ ?_
    rotate_left
    focus (intro w hSw; have hSc := HSS.out w hSw; clear hSw; go_simp; first | done | with_reducible rfl)
    try simp only [Act.put, List.setIfInBounds_toArray, List.set_cons_zero, List.set_cons_succ]
    refine held_on (i := 6) (d := (some 40)) (v := ?_) rfl rfl (by kernel_rfl) (by kernel_rfl) (by kernel_rfl) (fun _ _ _ h => h) (by rfl) hHeld ?_ ?_
    rotate_left
    focus (intro w hSw; have hSc := HSS.out w hSw; clear hSw; go_simp; first | done | with_reducible rfl)
    try simp only [Act.put, List.setIfInBounds_toArray, List.set_cons_zero, List.set_cons_succ]
    refine held_call (i := 5) (by kernel_rfl) rfl (by rfl) (fun K hK => ?_)
    go_simp
    (refine (HEN.out _ hHeld).mono ?_; rintro e wb ⟨sb, yb, rfl, hyb, hob, hxb⟩; have hyb1 : sameE (yb.map LE.ent) (ys.map LE.ent) = true := (by rw [hyb, HYE.out, sameE_refl]); have hsb := sameEnt_any (hob.es.mono (G := Lt wb.heap.size) fun i hi => hi.2) (Bw.es HGW.out (Bw.ext hHeld hxb)); rw [hyb1] at hsb; have HSB := Lib.hid hsb; clear hob hyb hyb1 hsb)
    refine hK.out _ _ (Bw.ext hHeld hxb) (fun hHeld => ?_)
    clear hK K
    try simp only [Act.put, List.setIfInBounds_toArray, List.set_cons_zero, List.set_cons_succ]
    refine held_call (i := 7) (by kernel_rfl) rfl (by rfl) (fun K hK => ?_)
    go_simp
    (refine HSB.out.mono ?_; rintro e wc ⟨rfl, hxc⟩)
    refine hK.out _ _ (Bw.ext hHeld hxc) (fun hHeld => ?_)
    clear hK K
    try simp only [Act.put, List.setIfInBounds_toArray, List.set_cons_zero, List.set_cons_succ]
    refine held_on (i := 8) (d := (some 42)) (v := ?_) rfl rfl (by kernel_rfl) (by kernel_rfl) (by kernel_rfl) (fun _ _ _ h => h) (by rfl) hHeld ?_ ?_
    rotate_left
    focus (intro w hSw; have hSc := HSS.out w hSw; clear hSw; go_simp; first | done | with_reducible rfl)
    try simp only [Act.put, List.setIfInBounds_toArray, List.set_cons_zero, List.set_cons_succ]
    refine held_on (i := 9) (d := (some 43)) (v := ?_) rfl rfl (by kernel_rfl) (by kernel_rfl) (by kernel_rfl) (fun _ _ _ h => h) (by rfl) hHeld ?_ ?_
    rotate_left
    focus (intro w hSw; have hSc := HSS.out w hSw; clear hSw; go_simp; first | done | with_reducible rfl)
    try simp only [Act.put, List.setIfInBounds_toArray, List.set_cons_zero, List.set_cons_succ]
    refine held_call (i := 10) (by kernel_rfl) rfl (by rfl) (fun K hK => ?_)
    go_simp
    (refine (known08 _).mono ?_; rintro e wd ⟨rfl, hbd⟩)
    refine hK.out _ _ (Bw.trans hHeld hbd) (fun hHeld => ?_)
    clear hK K
    try simp only [Act.put, List.setIfInBounds_toArray, List.set_cons_zero, List.set_cons_succ]
    refine held_on (i := 11) (d := (some 45)) (v := ?_) rfl rfl (by kernel_rfl) (by kernel_rfl) (by kernel_rfl) (fun _ _ _ h => h) (by rfl) hHeld ?_ ?_
    rotate_left
    focus (intro w hSw; have hSc := HSS.out w hSw; clear hSw; go_simp; first | done | with_reducible rfl)
    try simp only [Act.put, List.setIfInBounds_toArray, List.set_cons_zero, List.set_cons_succ]
    refine held_on (i := 12) (d := (some 2)) (v := ?_) rfl rfl (by kernel_rfl) (by kernel_rfl) (by kernel_rfl) (fun _ _ _ h => h) (by rfl) hHeld ?_ ?_
    rotate_left
    focus (intro w hSw; have hSc := HSS.out w hSw; clear hSw; go_simp; first | done | with_reducible rfl)
    try simp only [Act.put, List.setIfInBounds_toArray, List.set_cons_zero, List.set_cons_succ]
    refine wpAnyH_done (by kernel_rfl) ?_ _
    refine onlyN_mk ?_
    have HB := Lib.hid hHeld
    have hd := (hHeld.block D (Array.getElem?_eq_some_iff.1 HDK.out).1).trans HDK.out
    have HD := Lib.hid hd
    clear hHeld hd
    gi_wp2_with fail
    have hk' : St (fun b => b = D) wd (wd.putObj D (.deferred none)) := St.put HD.out rfl rfl
    refine ⟨by simp, .inl ⟨_, _, rfl, run_takeDeferred HD.out, ?_⟩⟩
    refine ⟨.bool true, ?_, rfl, ?_⟩
    · simp [results, Try.f19, go_sem]
    · have hw1 : Below w.heap.size w w4 := (HX1.out.trans HE14.out).below
      have hbW : Below w.heap.size w W := hw1.trans ⟨HST.out.os, HST.out.tape, HST.out.output, HST.out.size, fun b hb => HST.out.block b (by have := hw1.size; omega) (by have := HX1.out.size; omega)⟩
      exact (hbW.trans (HB.out.mono hbW.size)).trans ⟨hk'.os, hk'.tape, hk'.output, hk'.size, fun b hb => hk'.block b (by have := hbW.size; have := HB.out.size; omega) (by have := HDD.out; have := hw1.size; omega)⟩
theorem scanall_w (s : Sl) (xs : List LE) (w : World) (h : ES w (Lt w.heap.size) s xs) : Calls Try.prog 19 #[.slice s.a xs.length s.c] w fun e w' => e = .returned (.bool true) ∧ Below w.heap.size w w' := by
  by_cases hl : xs.length ≤ 400
  · exact scanall_yes h hl
  · exact scanall_not (by omega)
end Go.Proofs.Ytpapoalgocmlaaa
