/- What the theorem needs of the texts LogPlays: no condition of its own. -/
import Derived.Test.YtpapoalgocmlaaaPpa
import Derived.Test.YtpapoalgocmlaaaPpb
import Derived.Test.YtpapoalgocmlaaaPpc
import Derived.Test.YtpapoalgocmlaaaPpd
namespace Go.Proofs.Ytpapoalgocmlaaa
open Go.RowKit Go.Shelf
set_option linter.unusedVariables false
set_option linter.unusedSimpArgs false
theorem four_leads {w : World} {a b c d : Nat} (ha : IsB w a) (hb : IsB w b) (hc : IsB w c) (hd : IsB w d) (k : Nat) : Leads w (rootP a b c d k) := by
  intro x hx
  match k with
  | 0 => cases hx
  | 1 => cases hx; exact ha
  | 2 => cases hx; exact hb
  | 3 => cases hx; exact hc
  | 4 => cases hx; exact hd
  | _ + 5 => cases hx
theorem below_aside {B : Nat} {a w w' : World} {F : Nat → Prop} (hb : Below B a w) (h0 : Below 0 w w') (ha : Agree F w w') (hF : ∀ x, x < B → F x) : Below B a w' :=
  ⟨h0.os.trans hb.os, h0.tape.trans hb.tape, h0.output.trans hb.output, Nat.le_trans hb.size h0.size, fun k hk => (ha k (hF k hk)).trans (hb.block k hk)⟩
set_option maxRecDepth 100000 in
set_option maxHeartbeats 8000000 in
theorem logplays_else (keep : Int) (s : Sl) (n : Nat) (w : World) (h : ¬ (1 ≤ keep ∧ keep ≤ 1024)) :
    Calls Try.prog 9 #[.int .i64 keep, .slice s.a n s.c] w fun e w' => e = .returned (.bool true) ∧ Below w.heap.size w w' := by
  have hcase : keep < 1 ∨ (¬ keep < 1 ∧ 1024 < keep) := by omega
  have HN := Lib.hid (new_any w keep)
  have H := Lib.hid h
  clear h
  rcases hcase with g | ⟨g, g'⟩
  all_goals
    go_enter Try.func9, Try.ntmps9
    go_wp2_with fail
    refine HN.out.mono ?_
    rintro e w1 (⟨-, rfl, rfl⟩ | ⟨hn, -⟩)
    rotate_left
    · exact absurd hn H.out
    go_wp2_with fail
    refine (known19 w).mono ?_
    rintro e w9 ⟨rfl, hx9⟩
    go_wp2_with fail
    go_ret
    exact ⟨rfl, hx9.below⟩
set_option maxRecDepth 100000 in
set_option maxHeartbeats 8000000 in
theorem logplays_many (keep : Int) (s : Sl) (n : Nat) (w : World) (h : 1 ≤ keep ∧ keep ≤ 1024) (hn : 300 < n) :
    Calls Try.prog 9 #[.int .i64 keep, .slice s.a n s.c] w fun e w' => e = .returned (.bool true) ∧ Below w.heap.size w w' := by
  have g1 : ¬ keep < 1 := by omega
  have g2 : ¬ 1024 < keep := by omega
  have g3 : (300 : Int) < (n : Int) := by omega
  have HN := Lib.hid (new_any w keep)
  have H := Lib.hid h
  clear h hn
  go_enter Try.func9, Try.ntmps9
  go_wp2_with fail
  refine HN.out.mono ?_
  rintro e w1 (⟨hn, -⟩ | ⟨-, L, R, ring, rfl, hl1, hL, hR, hx1⟩)
  · exact absurd H.out hn
  have HX1 := Lib.hid hx1
  clear hl1 hx1 hL hR
  go_wp2_with fail
  refine (known19 w1).mono ?_
  rintro e w9 ⟨rfl, hx9⟩
  have HX9 := Lib.hid (HX1.out.trans hx9)
  clear hx9
  go_wp2_with fail
  go_ret
  exact ⟨rfl, HX9.out.below⟩
set_option maxRecDepth 100000 in
set_option maxHeartbeats 16000000 in
theorem logplays_main (kn : Nat) (s : Sl) (acts : List LL) (w : World) (hkn : 1 ≤ kn ∧ kn ≤ 1024) (h300 : acts.length ≤ 300) (ha : LCS w (Lt w.heap.size) s acts) :
    Calls Try.prog 9 #[.int .i64 kn, .slice s.a acts.length s.c] w fun e w' => e = .returned (.bool true) ∧ Below w.heap.size w w' := by
  have g1 : ¬ (kn : Int) < 1 := by omega
  have g2 : ¬ (1024 : Int) < (kn : Int) := by omega
  have g3 : ¬ (300 : Int) < (acts.length : Int) := by omega
  have HN := Lib.hid (new_any w kn)
  have HA := Lib.hid ha
  clear ha
  go_enter Try.func9, Try.ntmps9
  go_wp2_with fail
  refine HN.out.mono ?_
  rintro e w1 (⟨hn, -⟩ | ⟨-, L0, R0, ring, rfl, hl1, hL, hR, hx1⟩)
  · exact absurd ⟨by omega, by omega⟩ hn
  rw [Int.toNat_natCast] at hl1
  have HL1 := Lib.hid (show LogAt w1 L0 R0 kn 0 [] from LogAt.nil hl1)
  have HX1 := Lib.hid hx1
  clear hl1 hx1
  go_wp2_with fail
  refine (trees_any2 w1).mono ?_
  rintro e w2 ⟨T, a, b, c, d, rfl, hT, hab, hbc, hcd, hTg, hx2, hla, hlb, hlc, hld, hga⟩
  have hTl := hT.lt
  have hLl : L0 < w1.heap.size := HL1.out.lt.1
  have hRl : R0 < w1.heap.size := HL1.out.lt.2
  have hdl : d < w2.heap.size := by
    obtain ⟨cc, tt, hh⟩ := hld
    exact (Array.getElem?_eq_some_iff.1 hh).1
  have HTR := Lib.hid (show TreesAt w2 T a b c d w1.heap.size w2.heap.size from ⟨hT, hab, hbc, hcd, hga, by omega, hdl, hTl, fun k _ => four_leads hla hlb hlc hld k⟩)
  have HL2 := Lib.hid (HL1.out.ext hx2)
  have HX2 := Lib.hid (HX1.out.trans hx2)
  have hs2 := hx2.size
  have hs1 := HX1.out.size
  clear hT hx2 hla hlb hlc hld hab hbc hcd hTg hga hTl hdl
  go_wp2_with fail
  have hx3 : Ext w2 (w2.alloc (.cells #[.int .i64 kn, .slice none 0 0, .slice none 0 0] 66)) := (Ext.refl w2).alloc _ _
  have H3 := Lib.hid (show LogSt w.heap.size w1.heap.size w2.heap.size kn 0 T a b c d L0 w2.heap.size R0 0 [] Sl.none Sl.none (w2.alloc (.cells #[.int .i64 kn, .slice none 0 0, .slice none 0 0] 66)) from
    ⟨by simpa [psOf] using HL2.out.ext hx3, ⟨Blk.new w2 66 #[.int .i64 kn, .slice none 0 0, .slice none 0 0], Rd.nil _ _ _, Rd.nil _ _ _, by simp, by simp, by omega⟩, Rd.nil _ _ _, Rd.nil _ _ _, fun k hk => (by cases hk), Nat.le_refl _, by omega, by omega, hL, hR, by omega, .inl hLl, .inl hRl, Nat.le_refl _, HTR.out.agree (hx3.agree fun _ h => h) (fun x _ h => h), hx3.size⟩)
  have HB3 := Lib.hid (HX2.out.trans hx3).below
  obtain ⟨P, hP⟩ : ∃ P, w2.heap.size = P := ⟨_, rfl⟩
  obtain ⟨s1, hs1'⟩ : ∃ s1, w1.heap.size = s1 := ⟨_, rfl⟩
  generalize w2.alloc (.cells #[.int .i64 kn, .slice none 0 0, .slice none 0 0] 66) = w3 at *
  rw [hP, hs1'] at H3
  rw [hP]
  clear hx3 HTR HL1 HL2 HX1 HX2 hL hR hLl hRl hs1 hs2 hP hs1'
  go_loopw [5, 9] (fun l i wr => ∃ (j L R f : Nat) (ns : List Nat) (sv sn : Sl), j ≤ acts.length ∧ l = logV L ∧ i = .int .i64 j ∧ LogSt w.heap.size s1 P kn j T a b c d L P R f ns sv sn wr ∧ Below w.heap.size w wr) (fun _ i _ => acts.length - (intOf i).toNat)
  case atStart => exact ⟨0, L0, R0, 0, [], Sl.none, Sl.none, Nat.zero_le _, rfl, rfl, H3.out, HB3.out⟩
  case round =>
    obtain ⟨j, L, R, f, ns, sv, sn, hj, rfl, rfl, hst, hbl⟩ := hrel
    have HST := Lib.hid hst
    have HBL := Lib.hid hbl
    have hbz := hbl.size
    clear hst hbl
    by_cases hlt : j < acts.length
    · have g4 : (j : Int) < (acts.length : Int) := by omega
      obtain ⟨x, hxx⟩ : ∃ x, acts[j]? = some x := ⟨_, List.getElem?_eq_getElem hlt⟩
      obtain ⟨bA, oA, hsa, lb, hcc, hcm, ⟨a0, a1, a2⟩, hv0⟩ := (HA.out.agree (Agree.of_below HBL.out fun _ h => h)).at hxx
      obtain ⟨kd, v0, tt⟩ := x
      dsimp only at a0 a1 a2 hv0
      obtain ⟨sa, sc⟩ := s
      dsimp only at hsa hcc hcm
      subst hsa
      have lb : bA < w.heap.size := lb
      have lb' : bA < wr.heap.size := by omega
      clear hxx
      obtain ⟨W1, hW1⟩ : ∃ W1, wr.alloc (.cells #[.int .i64 kd, .int .u64 v0, .int .i64 tt] 76) = W1 := ⟨_, rfl⟩
      have HX1 := Lib.hid (show Ext wr W1 from hW1 ▸ (Ext.refl wr).alloc _ _)
      have HBX1 := Lib.hid (show Blk W1 wr.heap.size 76 #[.int .i64 kd, .int .u64 v0, .int .i64 tt] from hW1 ▸ Blk.new wr _ _)
      obtain ⟨m, hm⟩ : ∃ m, ns.length = m := ⟨_, rfl⟩
      have HM := Lib.hid hm
      have hmj := HST.out.len
      rw [hm] at hmj
      have hr1 := (HST.out.ext HX1.out).ref
      have hbx := HBX1.out.c3
      have lB := HBX1.out.lt
      have fB := fun o => HBX1.out.frozen o
      obtain ⟨-, p1, -⟩ := hr1.blk.c3
      have lP := hr1.blk.lt
      rw [hm] at p1
      clear hm
      have hcase : (kd = 2 ∧ 0 < m) ∨ (kd = 2 ∧ m = 0) ∨ kd = 1 ∨ (kd = 3 ∧ 0 < m) ∨ (kd = 3 ∧ m = 0) ∨ (kd ≠ 1 ∧ kd ≠ 2 ∧ kd ≠ 3) := by omega
      have hml : m ≤ 300 := by omega
      clear hmj
      rcases hcase with ⟨rfl, hm1⟩ | ⟨rfl, rfl⟩ | rfl | ⟨rfl, hm1⟩ | ⟨rfl, rfl⟩ | ⟨hk1, hk2, hk3⟩
      · skip
        obtain ⟨bv, ov, hs1, -, hc1⟩ := id hr1.rv
        rw [HM.out] at hs1 hc1
        obtain ⟨ha1, -, -⟩ := hs1.eq (by omega)
        have hfv := hs1.fits (by omega)
        have lv : bv < W1.heap.size := hfv.1
        rw [ha1] at p1
        obtain ⟨l, hl⟩ : ∃ l, m - 1 = l := ⟨_, rfl⟩
        have v1 := hc1 l _ (verV_at (by omega))
        obtain ⟨z, hz⟩ : ∃ z, f + l = z := ⟨_, rfl⟩
        rw [hz] at v1
        have hsm := HST.out.ref.small
        rw [HM.out] at hsm
        have hlm : (l : Int) < (m : Int) := by omega
        have hwl : IntKind.i64.wrap ((m : Int) - 1) = (l : Int) := by rw [IntKind.wrap_i64]; omega
        obtain ⟨vv, hvv⟩ : ∃ vv, z + 1 = vv := ⟨_, rfl⟩
        have hwz : IntKind.u64.wrap ((z : Int) + 1) = (vv : Int) := by rw [IntKind.wrap_u64]; omega
        have hm0 : (0 : Int) < (m : Int) := by omega
        have hvl : vv < 18446744073709551616 := by omega
        have HVV := Lib.hid (show vv = f + m by omega)
        clear hs1 hc1 ha1 hl hz hsm hvv
        clear hr1
        subst hW1
        go_wp2_with fail
        generalize wr.alloc (.cells #[.int .i64 2, .int .u64 v0, .int .i64 tt] 76) = W1 at *
        go_region
        go_wp2_with fail
        have HX2 := Lib.hid (show Ext wr (W1.setCell ⟨wr.heap.size, 1, none⟩ (.int .u64 vv)).drew from (HX1.out.setCell (p := ⟨wr.heap.size, 1, none⟩) (Nat.le_refl _) _).drew)
        have HBX2 := Lib.hid (show Blk (W1.setCell ⟨wr.heap.size, 1, none⟩ (.int .u64 vv)).drew wr.heap.size 76 #[.int .i64 2, .int .u64 vv, .int .i64 tt] from HBX1.out.set_ 1 _)
        clear p1 v1 hbx lB fB lP lv hlm hwl hwz hm0 a0 a1 a2 lb'
        generalize (W1.setCell ⟨wr.heap.size, 1, none⟩ (.int .u64 vv)).drew = W2 at *
        refine (pick_any (HST.out.ext HX2.out).trees.row tt).mono ?_
        rintro e W3 ⟨q, hq, rfl, hx3⟩
        rw [rootP_row _ _ _ _ _ (pk_lt tt)] at hq
        simp only [Option.some.injEq, Value.pointer.injEq] at hq
        have hk5 := pk_lt tt
        obtain ⟨k, hkz⟩ : ∃ k, pk tt = k := ⟨_, rfl⟩
        rw [hkz] at hk5 hq ⊢
        have HQ := Lib.hid hq
        have HX3 := Lib.hid (HX2.out.trans hx3)
        have HBX3 := Lib.hid (HBX2.out.ext hx3)
        have hbx := HBX3.out.c3
        have lB := HBX3.out.lt
        clear hx3 hq hkz
        go_wp2_with fail
        have hx4 : Ext W3 (W3.alloc (.cells #[.pointer q] 30)) := (Ext.refl W3).alloc _ _
        have HX4 := Lib.hid (HX3.out.trans hx4)
        have HBX4 := Lib.hid (HBX3.out.ext hx4)
        have HQX4 := Lib.hid (Blk.new W3 30 #[.pointer q])
        obtain ⟨Bq, hBq⟩ : ∃ Bq, W3.heap.size = Bq := ⟨_, rfl⟩
        rw [hBq] at HQX4
        rw [hBq]
        have hWq : wr.heap.size ≤ Bq := by have := HX3.out.size; omega
        clear hbx lB hx4 hBq
        generalize W3.alloc (.cells #[.pointer q] 30) = W4 at *
        have hput := ((HST.out.ext HX4.out).ext ((Ext.refl W4).drew)).put (by omega : j < 1000) hvl hk5
        rw [HQ.out] at hput
        have HPUT := Lib.hid hput
        have hbx4 := HBX4.out
        have hqx4 := HQX4.out
        have HSS := Lib.hid (show ∀ W, Agree (fun x => x = wr.heap.size ∨ x = Bq) W4 W → W.cell? ⟨wr.heap.size, 1, none⟩ = some (.int .u64 vv) ∧ W.cell? ⟨Bq, 0, none⟩ = some (.pointer q) from
          fun W hW => ⟨(hbx4.agree hW (.inl rfl)).cell 1, (hqx4.agree hW (.inr rfl)).cell 0⟩)
        have HLT := Lib.hid (show wr.heap.size < W4.heap.size ∧ Bq < W4.heap.size ∧ L < wr.heap.size ∧ R < wr.heap.size ∧ P < wr.heap.size from ⟨hbx4.lt, hqx4.lt, HST.out.log.lt.1, HST.out.log.lt.2, HST.out.ref.blk.lt⟩)
        clear hput hbx4 hqx4
        refine wp_region_held_drew (S := (fun w' => Agree (fun x => x = wr.heap.size ∨ x = Bq) W4 w')) (by kernel_rfl) ((fun _ _ => rfl)) (fun hHeld => ?_)
        refine held_on (i := 0) (d := (some 98)) (v := ?_) rfl rfl (by kernel_rfl) (by kernel_rfl) (by kernel_rfl) (fun _ _ _ h => h) (by rfl) hHeld ?_ ?_
        rotate_left
        focus (intro w hSw; have hSc := HSS.out w hSw; clear hSw; go_simp; first | done | with_reducible rfl)
        try simp only [Act.put, List.setIfInBounds_toArray, List.set_cons_zero, List.set_cons_succ]
        refine held_on (i := 1) (d := (some 99)) (v := ?_) rfl rfl (by kernel_rfl) (by kernel_rfl) (by kernel_rfl) (fun _ _ _ h => h) (by rfl) hHeld ?_ ?_
        rotate_left
        focus (intro w hSw; have hSc := HSS.out w hSw; clear hSw; go_simp; first | done | with_reducible rfl)
        try simp only [Act.put, List.setIfInBounds_toArray, List.set_cons_zero, List.set_cons_succ]
        refine held_on (i := 2) (d := (some 100)) (v := ?_) rfl rfl (by kernel_rfl) (by kernel_rfl) (by kernel_rfl) (fun _ _ _ h => h) (by rfl) hHeld ?_ ?_
        rotate_left
        focus (intro w hSw; have hSc := HSS.out w hSw; clear hSw; go_simp; first | done | with_reducible rfl)
        try simp only [Act.put, List.setIfInBounds_toArray, List.set_cons_zero, List.set_cons_succ]
        refine held_on (i := 3) (d := (some 101)) (v := ?_) rfl rfl (by kernel_rfl) (by kernel_rfl) (by kernel_rfl) (fun _ _ _ h => h) (by rfl) hHeld ?_ ?_
        rotate_left
        focus (intro w hSw; have hSc := HSS.out w hSw; clear hSw; go_simp; first | done | with_reducible rfl)
        try simp only [Act.put, List.setIfInBounds_toArray, List.set_cons_zero, List.set_cons_succ]
        refine held_on (i := 5) (d := (some 103)) (v := ?_) rfl rfl (by kernel_rfl) (by kernel_rfl) (by kernel_rfl) (fun _ _ _ h => h) (by rfl) hHeld ?_ ?_
        rotate_left
        focus (intro w hSw; have hSc := HSS.out w hSw; clear hSw; go_simp; first | done | with_reducible rfl)
        try simp only [Act.put, List.setIfInBounds_toArray, List.set_cons_zero, List.set_cons_succ]
        refine held_on (i := 6) (d := (some 104)) (v := ?_) rfl rfl (by kernel_rfl) (by kernel_rfl) (by kernel_rfl) (fun _ _ _ h => h) (by rfl) hHeld ?_ ?_
        rotate_left
        focus (intro w hSw; have hSc := HSS.out w hSw; clear hSw; go_simp; first | done | with_reducible rfl)
        try simp only [Act.put, List.setIfInBounds_toArray, List.set_cons_zero, List.set_cons_succ]
        refine held_on (i := 7) (d := (some 105)) (v := ?_) rfl rfl (by kernel_rfl) (by kernel_rfl) (by kernel_rfl) (fun _ _ _ h => h) (by rfl) hHeld ?_ ?_
        rotate_left
        focus (intro w hSw; have hSc := HSS.out w hSw; clear hSw; go_simp; first | done | with_reducible rfl)
        try simp only [Act.put, List.setIfInBounds_toArray, List.set_cons_zero, List.set_cons_succ]
        refine held_on (i := 8) (d := (some 106)) (v := ?_) rfl rfl (by kernel_rfl) (by kernel_rfl) (by kernel_rfl) (fun _ _ _ h => h) (by rfl) hHeld ?_ ?_
        rotate_left
        focus (intro w hSw; have hSc := HSS.out w hSw; clear hSw; go_simp; first | done | with_reducible rfl)
        try simp only [Act.put, List.setIfInBounds_toArray, List.set_cons_zero, List.set_cons_succ]
        refine held_call (i := 4) (by kernel_rfl) rfl (by rfl) (fun K hK => ?_)
        go_simp
        (refine HPUT.out.mono ?_; rintro e W5 ⟨code, rfl, hc5, ha5, hs5, hb5⟩; have HC5 := Lib.hid hc5; have HA5 := Lib.hid (show Agree (fun x => x < W4.heap.size ∧ x ≠ L ∧ x ≠ R) W4 W5 from ha5); clear hc5 ha5 hs5 hb5)
        refine hK.out _ _ ((HA5.out.mono fun x hx => by have := HLT.out; rcases hx with rfl|rfl <;> exact ⟨by omega, by omega, by omega⟩)) (fun hHeld => ?_)
        clear hK K
        try simp only [Act.put, List.setIfInBounds_toArray, List.set_cons_zero, List.set_cons_succ]
        refine held_call (i := 9) (by kernel_rfl) rfl (by rfl) (fun K hK => ?_)
        go_simp
        (refine HC5.out.mono ?_; rintro e W6 ⟨rfl, ⟨f6, ns6, sv6, sn6, hst6⟩, ha6, hs6, hb6⟩; have HST6 := Lib.hid hst6; have HA6 := Lib.hid (show Agree (fun x => x < W4.heap.size ∧ x ≠ L ∧ x ≠ R ∧ x ≠ P) W4 W6 from ha6); have HB6 := Lib.hid (show Below 0 W4 W6 from ⟨hb6.os, hb6.tape, hb6.output, hb6.size, hb6.block⟩); clear hst6 ha6 hs6 hb6)
        refine hK.out _ _ ((HA6.out.mono fun x hx => by have := HLT.out; rcases hx with rfl|rfl <;> exact ⟨by omega, by omega, by omega, by omega⟩)) (fun hHeld => ?_)
        clear hK K
        try simp only [Act.put, List.setIfInBounds_toArray, List.set_cons_zero, List.set_cons_succ]
        refine held_on (i := 10) (d := (some 108)) (v := ?_) rfl rfl (by kernel_rfl) (by kernel_rfl) (by kernel_rfl) (fun _ _ _ h => h) (by rfl) hHeld ?_ ?_
        rotate_left
        focus (intro w hSw; have hSc := HSS.out w hSw; clear hSw; go_simp; first | done | with_reducible rfl)
        try simp only [Act.put, List.setIfInBounds_toArray, List.set_cons_zero, List.set_cons_succ]
        refine wpAnyH_done (by kernel_rfl) ?_ _
        have HBX6 := Lib.hid (HBX4.out.agree HA6.out (by have := HLT.out; exact ⟨by omega, by omega, by omega, by omega⟩))
        have HBE6 := Lib.hid (below_aside (HBL.out.trans (HX4.out.below.mono hbz)) HB6.out HA6.out (fun x hx => by have := HST.out.bL; have := HST.out.bR; have := HST.out.bP; have := HX4.out.size; exact ⟨by omega, by omega, by omega, by omega⟩))
        clear hHeld
        have hbx := HBX6.out.c3
        have lB := HBX6.out.lt
        go_wp2_with fail
        refine (HST6.out.same).mono ?_
        rintro e W7 ⟨rfl, hb7⟩
        have HST7 := Lib.hid (HST6.out.below hb7)
        have HB7 := Lib.hid (HBE6.out.trans (hb7.mono HBE6.out.size))
        have HBX7 := Lib.hid (HBX6.out.agree (Agree.of_below hb7 fun _ h => h) HBX6.out.lt)
        replace hbx := HBX7.out.c3
        replace lB := HBX7.out.lt
        clear hb7
        go_wp2_with fail
        refine (HST7.out.asks vv hvl).mono ?_
        rintro e W8 ⟨rfl, hb8⟩
        have HST8 := Lib.hid (HST7.out.below hb8)
        have HB8 := Lib.hid (HB7.out.trans (hb8.mono HB7.out.size))
        clear hb8
        go_wp2_with fail
        go_roundw
        case rel => exact ⟨j + 1, L, _, _, _, _, _, hlt, rfl, by go_num, HST8.out, HB8.out⟩
        case measure => simp [intOf]; omega
      · skip
        clear hr1
        subst hW1
        have hvl := hv0
        obtain ⟨vv, rfl⟩ : ∃ vv, vv = v0 := ⟨_, rfl⟩
        go_wp2_with fail
        have HX2 := HX1
        have HBX2 := HBX1
        clear p1 hbx lB fB lP a0 a1 a2 lb'
        generalize wr.alloc (.cells #[.int .i64 2, .int .u64 vv, .int .i64 tt] 76) = W2 at *
        refine (pick_any (HST.out.ext HX2.out).trees.row tt).mono ?_
        rintro e W3 ⟨q, hq, rfl, hx3⟩
        rw [rootP_row _ _ _ _ _ (pk_lt tt)] at hq
        simp only [Option.some.injEq, Value.pointer.injEq] at hq
        have hk5 := pk_lt tt
        obtain ⟨k, hkz⟩ : ∃ k, pk tt = k := ⟨_, rfl⟩
        rw [hkz] at hk5 hq ⊢
        have HQ := Lib.hid hq
        have HX3 := Lib.hid (HX2.out.trans hx3)
        have HBX3 := Lib.hid (HBX2.out.ext hx3)
        have hbx := HBX3.out.c3
        have lB := HBX3.out.lt
        clear hx3 hq hkz
        go_wp2_with fail
        have hx4 : Ext W3 (W3.alloc (.cells #[.pointer q] 30)) := (Ext.refl W3).alloc _ _
        have HX4 := Lib.hid (HX3.out.trans hx4)
        have HBX4 := Lib.hid (HBX3.out.ext hx4)
        have HQX4 := Lib.hid (Blk.new W3 30 #[.pointer q])
        obtain ⟨Bq, hBq⟩ : ∃ Bq, W3.heap.size = Bq := ⟨_, rfl⟩
        rw [hBq] at HQX4
        rw [hBq]
        have hWq : wr.heap.size ≤ Bq := by have := HX3.out.size; omega
        clear hbx lB hx4 hBq
        generalize W3.alloc (.cells #[.pointer q] 30) = W4 at *
        have hput := ((HST.out.ext HX4.out).ext ((Ext.refl W4).drew)).put (by omega : j < 1000) hvl hk5
        rw [HQ.out] at hput
        have HPUT := Lib.hid hput
        have hbx4 := HBX4.out
        have hqx4 := HQX4.out
        have HSS := Lib.hid (show ∀ W, Agree (fun x => x = wr.heap.size ∨ x = Bq) W4 W → W.cell? ⟨wr.heap.size, 1, none⟩ = some (.int .u64 vv) ∧ W.cell? ⟨Bq, 0, none⟩ = some (.pointer q) from
          fun W hW => ⟨(hbx4.agree hW (.inl rfl)).cell 1, (hqx4.agree hW (.inr rfl)).cell 0⟩)
        have HLT := Lib.hid (show wr.heap.size < W4.heap.size ∧ Bq < W4.heap.size ∧ L < wr.heap.size ∧ R < wr.heap.size ∧ P < wr.heap.size from ⟨hbx4.lt, hqx4.lt, HST.out.log.lt.1, HST.out.log.lt.2, HST.out.ref.blk.lt⟩)
        clear hput hbx4 hqx4
        refine wp_region_held_drew (S := (fun w' => Agree (fun x => x = wr.heap.size ∨ x = Bq) W4 w')) (by kernel_rfl) ((fun _ _ => rfl)) (fun hHeld => ?_)
        refine held_on (i := 0) (d := (some 98)) (v := ?_) rfl rfl (by kernel_rfl) (by kernel_rfl) (by kernel_rfl) (fun _ _ _ h => h) (by rfl) hHeld ?_ ?_
        rotate_left
        focus (intro w hSw; have hSc := HSS.out w hSw; clear hSw; go_simp; first | done | with_reducible rfl)
        try simp only [Act.put, List.setIfInBounds_toArray, List.set_cons_zero, List.set_cons_succ]
        refine held_on (i := 1) (d := (some 99)) (v := ?_) rfl rfl (by kernel_rfl) (by kernel_rfl) (by kernel_rfl) (fun _ _ _ h => h) (by rfl) hHeld ?_ ?_
        rotate_left
        focus (intro w hSw; have hSc := HSS.out w hSw; clear hSw; go_simp; first | done | with_reducible rfl)
        try simp only [Act.put, List.setIfInBounds_toArray, List.set_cons_zero, List.set_cons_succ]
        refine held_on (i := 2) (d := (some 100)) (v := ?_) rfl rfl (by kernel_rfl) (by kernel_rfl) (by kernel_rfl) (fun _ _ _ h => h) (by rfl) hHeld ?_ ?_
        rotate_left
        focus (intro w hSw; have hSc := HSS.out w hSw; clear hSw; go_simp; first | done | with_reducible rfl)
        try simp only [Act.put, List.setIfInBounds_toArray, List.set_cons_zero, List.set_cons_succ]
        refine held_on (i := 3) (d := (some 101)) (v := ?_) rfl rfl (by kernel_rfl) (by kernel_rfl) (by kernel_rfl) (fun _ _ _ h => h) (by rfl) hHeld ?_ ?_
        rotate_left
        focus (intro w hSw; have hSc := HSS.out w hSw; clear hSw; go_simp; first | done | with_reducible rfl)
        try simp only [Act.put, List.setIfInBounds_toArray, List.set_cons_zero, List.set_cons_succ]
        refine held_on (i := 5) (d := (some 103)) (v := ?_) rfl rfl (by kernel_rfl) (by kernel_rfl) (by kernel_rfl) (fun _ _ _ h => h) (by rfl) hHeld ?_ ?_
        rotate_left
        focus (intro w hSw; have hSc := HSS.out w hSw; clear hSw; go_simp; first | done | with_reducible rfl)
        try simp only [Act.put, List.setIfInBounds_toArray, List.set_cons_zero, List.set_cons_succ]
        refine held_on (i := 6) (d := (some 104)) (v := ?_) rfl rfl (by kernel_rfl) (by kernel_rfl) (by kernel_rfl) (fun _ _ _ h => h) (by rfl) hHeld ?_ ?_
        rotate_left
        focus (intro w hSw; have hSc := HSS.out w hSw; clear hSw; go_simp; first | done | with_reducible rfl)
        try simp only [Act.put, List.setIfInBounds_toArray, List.set_cons_zero, List.set_cons_succ]
        refine held_on (i := 7) (d := (some 105)) (v := ?_) rfl rfl (by kernel_rfl) (by kernel_rfl) (by kernel_rfl) (fun _ _ _ h => h) (by rfl) hHeld ?_ ?_
        rotate_left
        focus (intro w hSw; have hSc := HSS.out w hSw; clear hSw; go_simp; first | done | with_reducible rfl)
        try simp only [Act.put, List.setIfInBounds_toArray, List.set_cons_zero, List.set_cons_succ]
        refine held_on (i := 8) (d := (some 106)) (v := ?_) rfl rfl (by kernel_rfl) (by kernel_rfl) (by kernel_rfl) (fun _ _ _ h => h) (by rfl) hHeld ?_ ?_
        rotate_left
        focus (intro w hSw; have hSc := HSS.out w hSw; clear hSw; go_simp; first | done | with_reducible rfl)
        try simp only [Act.put, List.setIfInBounds_toArray, List.set_cons_zero, List.set_cons_succ]
        refine held_call (i := 4) (by kernel_rfl) rfl (by rfl) (fun K hK => ?_)
        go_simp
        (refine HPUT.out.mono ?_; rintro e W5 ⟨code, rfl, hc5, ha5, hs5, hb5⟩; have HC5 := Lib.hid hc5; have HA5 := Lib.hid (show Agree (fun x => x < W4.heap.size ∧ x ≠ L ∧ x ≠ R) W4 W5 from ha5); clear hc5 ha5 hs5 hb5)
        refine hK.out _ _ ((HA5.out.mono fun x hx => by have := HLT.out; rcases hx with rfl|rfl <;> exact ⟨by omega, by omega, by omega⟩)) (fun hHeld => ?_)
        clear hK K
        try simp only [Act.put, List.setIfInBounds_toArray, List.set_cons_zero, List.set_cons_succ]
        refine held_call (i := 9) (by kernel_rfl) rfl (by rfl) (fun K hK => ?_)
        go_simp
        (refine HC5.out.mono ?_; rintro e W6 ⟨rfl, ⟨f6, ns6, sv6, sn6, hst6⟩, ha6, hs6, hb6⟩; have HST6 := Lib.hid hst6; have HA6 := Lib.hid (show Agree (fun x => x < W4.heap.size ∧ x ≠ L ∧ x ≠ R ∧ x ≠ P) W4 W6 from ha6); have HB6 := Lib.hid (show Below 0 W4 W6 from ⟨hb6.os, hb6.tape, hb6.output, hb6.size, hb6.block⟩); clear hst6 ha6 hs6 hb6)
        refine hK.out _ _ ((HA6.out.mono fun x hx => by have := HLT.out; rcases hx with rfl|rfl <;> exact ⟨by omega, by omega, by omega, by omega⟩)) (fun hHeld => ?_)
        clear hK K
        try simp only [Act.put, List.setIfInBounds_toArray, List.set_cons_zero, List.set_cons_succ]
        refine held_on (i := 10) (d := (some 108)) (v := ?_) rfl rfl (by kernel_rfl) (by kernel_rfl) (by kernel_rfl) (fun _ _ _ h => h) (by rfl) hHeld ?_ ?_
        rotate_left
        focus (intro w hSw; have hSc := HSS.out w hSw; clear hSw; go_simp; first | done | with_reducible rfl)
        try simp only [Act.put, List.setIfInBounds_toArray, List.set_cons_zero, List.set_cons_succ]
        refine wpAnyH_done (by kernel_rfl) ?_ _
        have HBX6 := Lib.hid (HBX4.out.agree HA6.out (by have := HLT.out; exact ⟨by omega, by omega, by omega, by omega⟩))
        have HBE6 := Lib.hid (below_aside (HBL.out.trans (HX4.out.below.mono hbz)) HB6.out HA6.out (fun x hx => by have := HST.out.bL; have := HST.out.bR; have := HST.out.bP; have := HX4.out.size; exact ⟨by omega, by omega, by omega, by omega⟩))
        clear hHeld
        have hbx := HBX6.out.c3
        have lB := HBX6.out.lt
        go_wp2_with fail
        refine (HST6.out.same).mono ?_
        rintro e W7 ⟨rfl, hb7⟩
        have HST7 := Lib.hid (HST6.out.below hb7)
        have HB7 := Lib.hid (HBE6.out.trans (hb7.mono HBE6.out.size))
        have HBX7 := Lib.hid (HBX6.out.agree (Agree.of_below hb7 fun _ h => h) HBX6.out.lt)
        replace hbx := HBX7.out.c3
        replace lB := HBX7.out.lt
        clear hb7
        go_wp2_with fail
        refine (HST7.out.asks vv hvl).mono ?_
        rintro e W8 ⟨rfl, hb8⟩
        have HST8 := Lib.hid (HST7.out.below hb8)
        have HB8 := Lib.hid (HB7.out.trans (hb8.mono HB7.out.size))
        clear hb8
        go_wp2_with fail
        go_roundw
        case rel => exact ⟨j + 1, L, _, _, _, _, _, hlt, rfl, by go_num, HST8.out, HB8.out⟩
        case measure => simp [intOf]; omega
      · skip
        clear hr1
        subst hW1
        have hvl := hv0
        obtain ⟨vv, rfl⟩ : ∃ vv, vv = v0 := ⟨_, rfl⟩
        go_wp2_with fail
        have HX2 := HX1
        have HBX2 := HBX1
        clear p1 hbx lB fB lP a0 a1 a2 lb'
        generalize wr.alloc (.cells #[.int .i64 1, .int .u64 vv, .int .i64 tt] 76) = W2 at *
        refine (pick_any (HST.out.ext HX2.out).trees.row tt).mono ?_
        rintro e W3 ⟨q, hq, rfl, hx3⟩
        rw [rootP_row _ _ _ _ _ (pk_lt tt)] at hq
        simp only [Option.some.injEq, Value.pointer.injEq] at hq
        have hk5 := pk_lt tt
        obtain ⟨k, hkz⟩ : ∃ k, pk tt = k := ⟨_, rfl⟩
        rw [hkz] at hk5 hq ⊢
        have HQ := Lib.hid hq
        have HX3 := Lib.hid (HX2.out.trans hx3)
        have HBX3 := Lib.hid (HBX2.out.ext hx3)
        have hbx := HBX3.out.c3
        have lB := HBX3.out.lt
        clear hx3 hq hkz
        go_wp2_with fail
        have hx4 : Ext W3 (W3.alloc (.cells #[.pointer q] 30)) := (Ext.refl W3).alloc _ _
        have HX4 := Lib.hid (HX3.out.trans hx4)
        have HBX4 := Lib.hid (HBX3.out.ext hx4)
        have HQX4 := Lib.hid (Blk.new W3 30 #[.pointer q])
        obtain ⟨Bq, hBq⟩ : ∃ Bq, W3.heap.size = Bq := ⟨_, rfl⟩
        rw [hBq] at HQX4
        rw [hBq]
        have hWq : wr.heap.size ≤ Bq := by have := HX3.out.size; omega
        clear hbx lB hx4 hBq
        generalize W3.alloc (.cells #[.pointer q] 30) = W4 at *
        have hput := ((HST.out.ext HX4.out).ext ((Ext.refl W4).drew)).put (by omega : j < 1000) hvl hk5
        rw [HQ.out] at hput
        have HPUT := Lib.hid hput
        have hbx4 := HBX4.out
        have hqx4 := HQX4.out
        have HSS := Lib.hid (show ∀ W, Agree (fun x => x = wr.heap.size ∨ x = Bq) W4 W → W.cell? ⟨wr.heap.size, 1, none⟩ = some (.int .u64 vv) ∧ W.cell? ⟨Bq, 0, none⟩ = some (.pointer q) from
          fun W hW => ⟨(hbx4.agree hW (.inl rfl)).cell 1, (hqx4.agree hW (.inr rfl)).cell 0⟩)
        have HLT := Lib.hid (show wr.heap.size < W4.heap.size ∧ Bq < W4.heap.size ∧ L < wr.heap.size ∧ R < wr.heap.size ∧ P < wr.heap.size from ⟨hbx4.lt, hqx4.lt, HST.out.log.lt.1, HST.out.log.lt.2, HST.out.ref.blk.lt⟩)
        clear hput hbx4 hqx4
        refine wp_region_held_drew (S := (fun w' => Agree (fun x => x = wr.heap.size ∨ x = Bq) W4 w')) (by kernel_rfl) ((fun _ _ => rfl)) (fun hHeld => ?_)
        refine held_on (i := 0) (d := (some 98)) (v := ?_) rfl rfl (by kernel_rfl) (by kernel_rfl) (by kernel_rfl) (fun _ _ _ h => h) (by rfl) hHeld ?_ ?_
        rotate_left
        focus (intro w hSw; have hSc := HSS.out w hSw; clear hSw; go_simp; first | done | with_reducible rfl)
        try simp only [Act.put, List.setIfInBounds_toArray, List.set_cons_zero, List.set_cons_succ]
        refine held_on (i := 1) (d := (some 99)) (v := ?_) rfl rfl (by kernel_rfl) (by kernel_rfl) (by kernel_rfl) (fun _ _ _ h => h) (by rfl) hHeld ?_ ?_
        rotate_left
        focus (intro w hSw; have hSc := HSS.out w hSw; clear hSw; go_simp; first | done | with_reducible rfl)
        try simp only [Act.put, List.setIfInBounds_toArray, List.set_cons_zero, List.set_cons_succ]
        refine held_on (i := 2) (d := (some 100)) (v := ?_) rfl rfl (by kernel_rfl) (by kernel_rfl) (by kernel_rfl) (fun _ _ _ h => h) (by rfl) hHeld ?_ ?_
        rotate_left
        focus (intro w hSw; have hSc := HSS.out w hSw; clear hSw; go_simp; first | done | with_reducible rfl)
        try simp only [Act.put, List.setIfInBounds_toArray, List.set_cons_zero, List.set_cons_succ]
        refine held_on (i := 3) (d := (some 101)) (v := ?_) rfl rfl (by kernel_rfl) (by kernel_rfl) (by kernel_rfl) (fun _ _ _ h => h) (by rfl) hHeld ?_ ?_
        rotate_left
        focus (intro w hSw; have hSc := HSS.out w hSw; clear hSw; go_simp; first | done | with_reducible rfl)
        try simp only [Act.put, List.setIfInBounds_toArray, List.set_cons_zero, List.set_cons_succ]
        refine held_on (i := 5) (d := (some 103)) (v := ?_) rfl rfl (by kernel_rfl) (by kernel_rfl) (by kernel_rfl) (fun _ _ _ h => h) (by rfl) hHeld ?_ ?_
        rotate_left
        focus (intro w hSw; have hSc := HSS.out w hSw; clear hSw; go_simp; first | done | with_reducible rfl)
        try simp only [Act.put, List.setIfInBounds_toArray, List.set_cons_zero, List.set_cons_succ]
        refine held_on (i := 6) (d := (some 104)) (v := ?_) rfl rfl (by kernel_rfl) (by kernel_rfl) (by kernel_rfl) (fun _ _ _ h => h) (by rfl) hHeld ?_ ?_
        rotate_left
        focus (intro w hSw; have hSc := HSS.out w hSw; clear hSw; go_simp; first | done | with_reducible rfl)
        try simp only [Act.put, List.setIfInBounds_toArray, List.set_cons_zero, List.set_cons_succ]
        refine held_on (i := 7) (d := (some 105)) (v := ?_) rfl rfl (by kernel_rfl) (by kernel_rfl) (by kernel_rfl) (fun _ _ _ h => h) (by rfl) hHeld ?_ ?_
        rotate_left
        focus (intro w hSw; have hSc := HSS.out w hSw; clear hSw; go_simp; first | done | with_reducible rfl)
        try simp only [Act.put, List.setIfInBounds_toArray, List.set_cons_zero, List.set_cons_succ]
        refine held_on (i := 8) (d := (some 106)) (v := ?_) rfl rfl (by kernel_rfl) (by kernel_rfl) (by kernel_rfl) (fun _ _ _ h => h) (by rfl) hHeld ?_ ?_
        rotate_left
        focus (intro w hSw; have hSc := HSS.out w hSw; clear hSw; go_simp; first | done | with_reducible rfl)
        try simp only [Act.put, List.setIfInBounds_toArray, List.set_cons_zero, List.set_cons_succ]
        refine held_call (i := 4) (by kernel_rfl) rfl (by rfl) (fun K hK => ?_)
        go_simp
        (refine HPUT.out.mono ?_; rintro e W5 ⟨code, rfl, hc5, ha5, hs5, hb5⟩; have HC5 := Lib.hid hc5; have HA5 := Lib.hid (show Agree (fun x => x < W4.heap.size ∧ x ≠ L ∧ x ≠ R) W4 W5 from ha5); clear hc5 ha5 hs5 hb5)
        refine hK.out _ _ ((HA5.out.mono fun x hx => by have := HLT.out; rcases hx with rfl|rfl <;> exact ⟨by omega, by omega, by omega⟩)) (fun hHeld => ?_)
        clear hK K
        try simp only [Act.put, List.setIfInBounds_toArray, List.set_cons_zero, List.set_cons_succ]
        refine held_call (i := 9) (by kernel_rfl) rfl (by rfl) (fun K hK => ?_)
        go_simp
        (refine HC5.out.mono ?_; rintro e W6 ⟨rfl, ⟨f6, ns6, sv6, sn6, hst6⟩, ha6, hs6, hb6⟩; have HST6 := Lib.hid hst6; have HA6 := Lib.hid (show Agree (fun x => x < W4.heap.size ∧ x ≠ L ∧ x ≠ R ∧ x ≠ P) W4 W6 from ha6); have HB6 := Lib.hid (show Below 0 W4 W6 from ⟨hb6.os, hb6.tape, hb6.output, hb6.size, hb6.block⟩); clear hst6 ha6 hs6 hb6)
        refine hK.out _ _ ((HA6.out.mono fun x hx => by have := HLT.out; rcases hx with rfl|rfl <;> exact ⟨by omega, by omega, by omega, by omega⟩)) (fun hHeld => ?_)
        clear hK K
        try simp only [Act.put, List.setIfInBounds_toArray, List.set_cons_zero, List.set_cons_succ]
        refine held_on (i := 10) (d := (some 108)) (v := ?_) rfl rfl (by kernel_rfl) (by kernel_rfl) (by kernel_rfl) (fun _ _ _ h => h) (by rfl) hHeld ?_ ?_
        rotate_left
        focus (intro w hSw; have hSc := HSS.out w hSw; clear hSw; go_simp; first | done | with_reducible rfl)
        try simp only [Act.put, List.setIfInBounds_toArray, List.set_cons_zero, List.set_cons_succ]
        refine wpAnyH_done (by kernel_rfl) ?_ _
        have HBX6 := Lib.hid (HBX4.out.agree HA6.out (by have := HLT.out; exact ⟨by omega, by omega, by omega, by omega⟩))
        have HBE6 := Lib.hid (below_aside (HBL.out.trans (HX4.out.below.mono hbz)) HB6.out HA6.out (fun x hx => by have := HST.out.bL; have := HST.out.bR; have := HST.out.bP; have := HX4.out.size; exact ⟨by omega, by omega, by omega, by omega⟩))
        clear hHeld
        have hbx := HBX6.out.c3
        have lB := HBX6.out.lt
        go_wp2_with fail
        refine (HST6.out.same).mono ?_
        rintro e W7 ⟨rfl, hb7⟩
        have HST7 := Lib.hid (HST6.out.below hb7)
        have HB7 := Lib.hid (HBE6.out.trans (hb7.mono HBE6.out.size))
        have HBX7 := Lib.hid (HBX6.out.agree (Agree.of_below hb7 fun _ h => h) HBX6.out.lt)
        replace hbx := HBX7.out.c3
        replace lB := HBX7.out.lt
        clear hb7
        go_wp2_with fail
        refine (HST7.out.asks vv hvl).mono ?_
        rintro e W8 ⟨rfl, hb8⟩
        have HST8 := Lib.hid (HST7.out.below hb8)
        have HB8 := Lib.hid (HB7.out.trans (hb8.mono HB7.out.size))
        clear hb8
        go_wp2_with fail
        go_roundw
        case rel => exact ⟨j + 1, L, _, _, _, _, _, hlt, rfl, by go_num, HST8.out, HB8.out⟩
        case measure => simp [intOf]; omega
      · skip
        clear hr1
        subst hW1
        have hvl := hv0
        obtain ⟨vv, rfl⟩ : ∃ vv, vv = v0 := ⟨_, rfl⟩
        go_wp2_with fail
        have HX2 := HX1
        have HBX2 := HBX1
        clear p1 hbx lB fB lP a0 a1 a2 lb'
        generalize wr.alloc (.cells #[.int .i64 3, .int .u64 vv, .int .i64 tt] 76) = W2 at *
        refine (pick_any (HST.out.ext HX2.out).trees.row tt).mono ?_
        rintro e W3 ⟨q, hq, rfl, hx3⟩
        rw [rootP_row _ _ _ _ _ (pk_lt tt)] at hq
        simp only [Option.some.injEq, Value.pointer.injEq] at hq
        have hk5 := pk_lt tt
        obtain ⟨k, hkz⟩ : ∃ k, pk tt = k := ⟨_, rfl⟩
        rw [hkz] at hk5 hq ⊢
        have HQ := Lib.hid hq
        have HX3 := Lib.hid (HX2.out.trans hx3)
        have HBX3 := Lib.hid (HBX2.out.ext hx3)
        have hbx := HBX3.out.c3
        have lB := HBX3.out.lt
        clear hx3 hq hkz
        go_wp2_with fail
        have hx4 : Ext W3 (W3.alloc (.cells #[.pointer q] 30)) := (Ext.refl W3).alloc _ _
        have HX4 := Lib.hid (HX3.out.trans hx4)
        have HBX4 := Lib.hid (HBX3.out.ext hx4)
        have HQX4 := Lib.hid (Blk.new W3 30 #[.pointer q])
        obtain ⟨Bq, hBq⟩ : ∃ Bq, W3.heap.size = Bq := ⟨_, rfl⟩
        rw [hBq] at HQX4
        rw [hBq]
        have hWq : wr.heap.size ≤ Bq := by have := HX3.out.size; omega
        clear hbx lB hx4 hBq
        generalize W3.alloc (.cells #[.pointer q] 30) = W4 at *
        have hcp := (HST.out.ext HX4.out).copy (by have := HX4.out.size; omega)
        refine hcp.mono ?_
        rintro e W5 ⟨L', R', rfl, hst5, hL5, hR5, hx5⟩
        have HST5 := Lib.hid hst5
        have HOLD := Lib.hid ((HST.out.ext HX4.out).ext hx5)
        have HX5 := Lib.hid (HX4.out.trans hx5)
        have HBX5 := Lib.hid (HBX4.out.ext hx5)
        have HQX5 := Lib.hid (HQX4.out.ext hx5)
        obtain ⟨-, p1, -⟩ := hst5.ref.blk.c3
        rw [HM.out] at p1
        have lP := hst5.ref.blk.lt
        clear hcp hst5 hx5
        obtain ⟨bv, ov, hs1, -, hc1⟩ := id HOLD.out.rv
        rw [HM.out] at hs1 hc1
        obtain ⟨ha1, -, -⟩ := hs1.eq (by omega)
        have hfv := hs1.fits (by omega)
        have lv : bv < W5.heap.size := hfv.1
        rw [ha1] at p1
        obtain ⟨l, hl⟩ : ∃ l, m - 1 = l := ⟨_, rfl⟩
        have v1 := hc1 l _ (verV_at (by omega))
        obtain ⟨z, hz⟩ : ∃ z, f + l = z := ⟨_, rfl⟩
        rw [hz] at v1
        have hsm := HST.out.ref.small
        rw [HM.out] at hsm
        have hlm : (l : Int) < (m : Int) := by omega
        have hwl : IntKind.i64.wrap ((m : Int) - 1) = (l : Int) := by rw [IntKind.wrap_i64]; omega
        obtain ⟨zz, hvv⟩ : ∃ vv, z + 1 = vv := ⟨_, rfl⟩
        have hwz : IntKind.u64.wrap ((z : Int) + 1) = (zz : Int) := by rw [IntKind.wrap_u64]; omega
        have hm0 : (0 : Int) < (m : Int) := by omega
        have hzl : zz < 18446744073709551616 := by omega
        have HVV := Lib.hid (show zz = f + m by omega)
        clear hs1 hc1 ha1 hl hz hsm hvv
        have hdr := (HOLD.out.ext ((Ext.refl W5).drew)).drop (HST5.out.ext ((Ext.refl W5).drew)) (by have := HST.out.log.lt; have := HX4.out.size; omega) (by have := HST.out.log.lt; have := HX4.out.size; omega) (by have := HST.out.log.lt; have := HX4.out.size; omega) (by have := HST.out.log.lt; have := HX4.out.size; omega) (show zz = f + ns.length by rw [HM.out]; exact HVV.out) (by rw [HM.out]; exact hm1) q
        have HDR := Lib.hid hdr
        have hqx5 := HQX5.out
        have HSS := Lib.hid (show ∀ W, Agree (fun x => x = Bq ∨ x = P ∨ x = bv) W5 W → W.cell? ⟨P, 1, none⟩ = some (.slice (some ⟨bv, ov, none⟩) m sv.c) ∧ W.cell? ⟨bv, ov + l, none⟩ = some (.int .u64 z) ∧ W.cell? ⟨Bq, 0, none⟩ = some (.pointer q) from
          fun W hW => ⟨(hW.cell (.inr (.inl rfl))).trans p1, (hW.cell (.inr (.inr rfl))).trans v1, (hqx5.agree hW (.inl rfl)).cell 0⟩)
        have HLT := Lib.hid (show wr.heap.size < W5.heap.size ∧ Bq < W5.heap.size ∧ L < wr.heap.size ∧ R < wr.heap.size ∧ P < wr.heap.size ∧ bv < W5.heap.size ∧ bv ≠ L ∧ bv ≠ R ∧ L ≠ P ∧ R ≠ P from ⟨HBX5.out.lt, hqx5.lt, HST.out.log.lt.1, HST.out.log.lt.2, HST.out.ref.blk.lt, hfv.1, hfv.2.2.1, hfv.2.2.2, HST.out.LP, HST.out.RP⟩)
        clear hdr hqx5 hfv
        go_wp2_with fail
        refine wp_region_held_drew (S := (fun w' => Agree (fun x => x = Bq ∨ x = P ∨ x = bv) W5 w')) (by kernel_rfl) ((fun _ _ => rfl)) (fun hHeld => ?_)
        refine held_on (i := 0) (d := (some 122)) (v := ?_) rfl rfl (by kernel_rfl) (by kernel_rfl) (by kernel_rfl) (fun _ _ _ h => h) (by rfl) hHeld ?_ ?_
        rotate_left
        focus (intro w hSw; have hSc := HSS.out w hSw; clear hSw; go_simp; first | done | with_reducible rfl)
        try simp only [Act.put, List.setIfInBounds_toArray, List.set_cons_zero, List.set_cons_succ]
        refine held_on (i := 1) (d := (some 123)) (v := ?_) rfl rfl (by kernel_rfl) (by kernel_rfl) (by kernel_rfl) (fun _ _ _ h => h) (by rfl) hHeld ?_ ?_
        rotate_left
        focus (intro w hSw; have hSc := HSS.out w hSw; clear hSw; go_simp; first | done | with_reducible rfl)
        try simp only [Act.put, List.setIfInBounds_toArray, List.set_cons_zero, List.set_cons_succ]
        refine held_on (i := 2) (d := (some 124)) (v := ?_) rfl rfl (by kernel_rfl) (by kernel_rfl) (by kernel_rfl) (fun _ _ _ h => h) (by rfl) hHeld ?_ ?_
        rotate_left
        focus (intro w hSw; have hSc := HSS.out w hSw; clear hSw; go_simp; first | done | with_reducible rfl)
        try simp only [Act.put, List.setIfInBounds_toArray, List.set_cons_zero, List.set_cons_succ]
        refine held_on (i := 3) (d := (some 125)) (v := ?_) rfl rfl (by kernel_rfl) (by kernel_rfl) (by kernel_rfl) (fun _ _ _ h => h) (by rfl) hHeld ?_ ?_
        rotate_left
        focus (intro w hSw; have hSc := HSS.out w hSw; clear hSw; go_simp; first | done | with_reducible rfl)
        try simp only [Act.put, List.setIfInBounds_toArray, List.set_cons_zero, List.set_cons_succ]
        refine held_on (i := 4) (d := (some 126)) (v := ?_) rfl rfl (by kernel_rfl) (by kernel_rfl) (by kernel_rfl) (fun _ _ _ h => h) (by rfl) hHeld ?_ ?_
        rotate_left
        focus (intro w hSw; have hSc := HSS.out w hSw; clear hSw; go_simp; first | done | with_reducible rfl)
        try simp only [Act.put, List.setIfInBounds_toArray, List.set_cons_zero, List.set_cons_succ]
        refine held_on (i := 5) (d := (some 127)) (v := ?_) rfl rfl (by kernel_rfl) (by kernel_rfl) (by kernel_rfl) (fun _ _ _ h => h) (by rfl) hHeld ?_ ?_
        rotate_left
        focus (intro w hSw; have hSc := HSS.out w hSw; clear hSw; go_simp; first | done | with_reducible rfl)
        try simp only [Act.put, List.setIfInBounds_toArray, List.set_cons_zero, List.set_cons_succ]
        refine held_on (i := 6) (d := (some 128)) (v := ?_) rfl rfl (by kernel_rfl) (by kernel_rfl) (by kernel_rfl) (fun _ _ _ h => h) (by rfl) hHeld ?_ ?_
        rotate_left
        focus (intro w hSw; have hSc := HSS.out w hSw; clear hSw; go_simp; first | done | with_reducible rfl)
        try simp only [Act.put, List.setIfInBounds_toArray, List.set_cons_zero, List.set_cons_succ]
        refine held_on (i := 7) (d := (some 129)) (v := ?_) rfl rfl (by kernel_rfl) (by kernel_rfl) (by kernel_rfl) (fun _ _ _ h => h) (by rfl) hHeld ?_ ?_
        rotate_left
        focus (intro w hSw; have hSc := HSS.out w hSw; clear hSw; go_simp; first | done | with_reducible rfl)
        try simp only [Act.put, List.setIfInBounds_toArray, List.set_cons_zero, List.set_cons_succ]
        refine held_on (i := 8) (d := (some 130)) (v := ?_) rfl rfl (by kernel_rfl) (by kernel_rfl) (by kernel_rfl) (fun _ _ _ h => h) (by rfl) hHeld ?_ ?_
        rotate_left
        focus (intro w hSw; have hSc := HSS.out w hSw; clear hSw; go_simp; first | done | with_reducible rfl)
        try simp only [Act.put, List.setIfInBounds_toArray, List.set_cons_zero, List.set_cons_succ]
        refine held_on (i := 9) (d := (some 131)) (v := ?_) rfl rfl (by kernel_rfl) (by kernel_rfl) (by kernel_rfl) (fun _ _ _ h => h) (by rfl) hHeld ?_ ?_
        rotate_left
        focus (intro w hSw; have hSc := HSS.out w hSw; clear hSw; go_simp; first | done | with_reducible rfl)
        try simp only [Act.put, List.setIfInBounds_toArray, List.set_cons_zero, List.set_cons_succ]
        refine held_on (i := 10) (d := (some 132)) (v := ?_) rfl rfl (by kernel_rfl) (by kernel_rfl) (by kernel_rfl) (fun _ _ _ h => h) (by rfl) hHeld ?_ ?_
        rotate_left
        focus (intro w hSw; have hSc := HSS.out w hSw; clear hSw; go_simp; first | done | with_reducible rfl)
        try simp only [Act.put, List.setIfInBounds_toArray, List.set_cons_zero, List.set_cons_succ]
        refine held_on (i := 11) (d := (some 133)) (v := ?_) rfl rfl (by kernel_rfl) (by kernel_rfl) (by kernel_rfl) (fun _ _ _ h => h) (by rfl) hHeld ?_ ?_
        rotate_left
        focus (intro w hSw; have hSc := HSS.out w hSw; clear hSw; go_simp; first | done | with_reducible rfl)
        try simp only [Act.put, List.setIfInBounds_toArray, List.set_cons_zero, List.set_cons_succ]
        refine held_on (i := 12) (d := (some 134)) (v := ?_) rfl rfl (by kernel_rfl) (by kernel_rfl) (by kernel_rfl) (fun _ _ _ h => h) (by rfl) hHeld ?_ ?_
        rotate_left
        focus (intro w hSw; have hSc := HSS.out w hSw; clear hSw; go_simp; first | done | with_reducible rfl)
        try simp only [Act.put, List.setIfInBounds_toArray, List.set_cons_zero, List.set_cons_succ]
        refine held_on (i := 13) (d := (some 135)) (v := ?_) rfl rfl (by kernel_rfl) (by kernel_rfl) (by kernel_rfl) (fun _ _ _ h => h) (by rfl) hHeld ?_ ?_
        rotate_left
        focus (intro w hSw; have hSc := HSS.out w hSw; clear hSw; go_simp; first | done | with_reducible rfl)
        try simp only [Act.put, List.setIfInBounds_toArray, List.set_cons_zero, List.set_cons_succ]
        refine held_on (i := 14) (d := (some 136)) (v := ?_) rfl rfl (by kernel_rfl) (by kernel_rfl) (by kernel_rfl) (fun _ _ _ h => h) (by rfl) hHeld ?_ ?_
        rotate_left
        focus (intro w hSw; have hSc := HSS.out w hSw; clear hSw; go_simp; first | done | with_reducible rfl)
        try simp only [Act.put, List.setIfInBounds_toArray, List.set_cons_zero, List.set_cons_succ]
        refine held_call (i := 15) (by kernel_rfl) rfl (by rfl) (fun K hK => ?_)
        go_simp
        (refine HDR.out.mono ?_; rintro e W6 ⟨⟨rr, rfl⟩, hst6, ha6, hs6, hb6⟩; have HST6 := Lib.hid (hst6.more (Nat.le_succ j)); have HA6 := Lib.hid (show Agree (fun x => x < W5.heap.size ∧ x ≠ L ∧ x ≠ R) W5 W6 from ha6); have HB6 := Lib.hid (show Below 0 W5 W6 from ⟨hb6.os, hb6.tape, hb6.output, hb6.size, hb6.block⟩); clear hst6 ha6 hs6 hb6)
        refine hK.out _ _ ((HA6.out.mono fun x hx => by have := HLT.out; rcases hx with rfl|rfl|rfl <;> exact ⟨by omega, by omega, by omega⟩)) (fun hHeld => ?_)
        clear hK K
        try simp only [Act.put, List.setIfInBounds_toArray, List.set_cons_zero, List.set_cons_succ]
        refine wpAnyH_done (by kernel_rfl) ?_ _
        have HBX6 := Lib.hid (HBX5.out.agree HA6.out (by have := HLT.out; exact ⟨by omega, by omega, by omega⟩))
        have HBE6 := Lib.hid (below_aside (HBL.out.trans (HX5.out.below.mono hbz)) HB6.out HA6.out (fun x hx => by have := HST.out.bL; have := HST.out.bR; have := HX5.out.size; exact ⟨by omega, by omega, by omega⟩))
        clear hHeld p1 v1 lP lv
        have hbx := HBX6.out.c3
        have lB := HBX6.out.lt
        go_wp2_with fail
        refine (HST6.out.same).mono ?_
        rintro e W7 ⟨rfl, hb7⟩
        have HST7 := Lib.hid (HST6.out.below hb7)
        have HB7 := Lib.hid (HBE6.out.trans (hb7.mono HBE6.out.size))
        have HBX7 := Lib.hid (HBX6.out.agree (Agree.of_below hb7 fun _ h => h) HBX6.out.lt)
        replace hbx := HBX7.out.c3
        replace lB := HBX7.out.lt
        clear hb7
        go_wp2_with fail
        refine (HST7.out.asks vv hvl).mono ?_
        rintro e W8 ⟨rfl, hb8⟩
        have HST8 := Lib.hid (HST7.out.below hb8)
        have HB8 := Lib.hid (HB7.out.trans (hb8.mono HB7.out.size))
        clear hb8
        go_wp2_with fail
        go_roundw
        case rel => exact ⟨j + 1, L', _, _, _, _, _, hlt, rfl, by go_num, HST8.out, HB8.out⟩
        case measure => simp [intOf]; omega
      · skip
        clear hr1
        subst hW1
        have hvl := hv0
        obtain ⟨vv, rfl⟩ : ∃ vv, vv = v0 := ⟨_, rfl⟩
        go_wp2_with fail
        have HX2 := HX1
        have HBX2 := HBX1
        clear p1 hbx lB fB lP a0 a1 a2 lb'
        generalize wr.alloc (.cells #[.int .i64 3, .int .u64 vv, .int .i64 tt] 76) = W2 at *
        refine (pick_any (HST.out.ext HX2.out).trees.row tt).mono ?_
        rintro e W3 ⟨q, hq, rfl, hx3⟩
        rw [rootP_row _ _ _ _ _ (pk_lt tt)] at hq
        simp only [Option.some.injEq, Value.pointer.injEq] at hq
        have hk5 := pk_lt tt
        obtain ⟨k, hkz⟩ : ∃ k, pk tt = k := ⟨_, rfl⟩
        rw [hkz] at hk5 hq ⊢
        have HQ := Lib.hid hq
        have HX3 := Lib.hid (HX2.out.trans hx3)
        have HBX3 := Lib.hid (HBX2.out.ext hx3)
        have hbx := HBX3.out.c3
        have lB := HBX3.out.lt
        clear hx3 hq hkz
        go_wp2_with fail
        have hx4 : Ext W3 (W3.alloc (.cells #[.pointer q] 30)) := (Ext.refl W3).alloc _ _
        have HX4 := Lib.hid (HX3.out.trans hx4)
        have HBX4 := Lib.hid (HBX3.out.ext hx4)
        have HQX4 := Lib.hid (Blk.new W3 30 #[.pointer q])
        obtain ⟨Bq, hBq⟩ : ∃ Bq, W3.heap.size = Bq := ⟨_, rfl⟩
        rw [hBq] at HQX4
        rw [hBq]
        have hWq : wr.heap.size ≤ Bq := by have := HX3.out.size; omega
        clear hbx lB hx4 hBq
        generalize W3.alloc (.cells #[.pointer q] 30) = W4 at *
        have hcp := (HST.out.ext HX4.out).copy (by have := HX4.out.size; omega)
        refine hcp.mono ?_
        rintro e W5 ⟨L', R', rfl, hst5, hL5, hR5, hx5⟩
        have HST5 := Lib.hid hst5
        have HOLD := Lib.hid ((HST.out.ext HX4.out).ext hx5)
        have HX5 := Lib.hid (HX4.out.trans hx5)
        have HBX5 := Lib.hid (HBX4.out.ext hx5)
        have HQX5 := Lib.hid (HQX4.out.ext hx5)
        obtain ⟨-, p1, -⟩ := hst5.ref.blk.c3
        rw [HM.out] at p1
        have lP := hst5.ref.blk.lt
        clear hcp hst5 hx5
        have HST6 := Lib.hid (HST5.out.more (Nat.le_succ j))
        have HBE6 := Lib.hid (HBL.out.trans (HX5.out.below.mono hbz))
        have HBX6 := HBX5
        have hbx := HBX6.out.c3
        have lB := HBX6.out.lt
        go_wp2_with fail
        refine (HST6.out.same).mono ?_
        rintro e W7 ⟨rfl, hb7⟩
        have HST7 := Lib.hid (HST6.out.below hb7)
        have HB7 := Lib.hid (HBE6.out.trans (hb7.mono HBE6.out.size))
        have HBX7 := Lib.hid (HBX6.out.agree (Agree.of_below hb7 fun _ h => h) HBX6.out.lt)
        replace hbx := HBX7.out.c3
        replace lB := HBX7.out.lt
        clear hb7
        go_wp2_with fail
        refine (HST7.out.asks vv hvl).mono ?_
        rintro e W8 ⟨rfl, hb8⟩
        have HST8 := Lib.hid (HST7.out.below hb8)
        have HB8 := Lib.hid (HB7.out.trans (hb8.mono HB7.out.size))
        clear hb8
        go_wp2_with fail
        go_roundw
        case rel => exact ⟨j + 1, L', _, _, _, _, _, hlt, rfl, by go_num, HST8.out, HB8.out⟩
        case measure => simp [intOf]; omega
      · skip
        have hk1a : (kd == 1) = false := beq_eq_false_iff_ne.2 hk1
        have hk1b : decide (kd = 1) = false := decide_eq_false hk1
        have hk1c : ¬ kd = 1 := hk1
        have hk2a : (kd == 2) = false := beq_eq_false_iff_ne.2 hk2
        have hk2b : decide (kd = 2) = false := decide_eq_false hk2
        have hk2c : ¬ kd = 2 := hk2
        have hk3a : (kd == 3) = false := beq_eq_false_iff_ne.2 hk3
        have hk3b : decide (kd = 3) = false := decide_eq_false hk3
        have hk3c : ¬ kd = 3 := hk3
        clear hr1
        subst hW1
        have hvl := hv0
        obtain ⟨vv, rfl⟩ : ∃ vv, vv = v0 := ⟨_, rfl⟩
        go_wp2_with fail
        have HX2 := HX1
        have HBX2 := HBX1
        clear p1 hbx lB fB lP a0 a1 a2 lb'
        generalize wr.alloc (.cells #[.int .i64 kd, .int .u64 vv, .int .i64 tt] 76) = W2 at *
        refine (pick_any (HST.out.ext HX2.out).trees.row tt).mono ?_
        rintro e W3 ⟨q, hq, rfl, hx3⟩
        rw [rootP_row _ _ _ _ _ (pk_lt tt)] at hq
        simp only [Option.some.injEq, Value.pointer.injEq] at hq
        have hk5 := pk_lt tt
        obtain ⟨k, hkz⟩ : ∃ k, pk tt = k := ⟨_, rfl⟩
        rw [hkz] at hk5 hq ⊢
        have HQ := Lib.hid hq
        have HX3 := Lib.hid (HX2.out.trans hx3)
        have HBX3 := Lib.hid (HBX2.out.ext hx3)
        have hbx := HBX3.out.c3
        have lB := HBX3.out.lt
        clear hx3 hq hkz
        go_wp2_with fail
        have hx4 : Ext W3 (W3.alloc (.cells #[.pointer q] 30)) := (Ext.refl W3).alloc _ _
        have HX4 := Lib.hid (HX3.out.trans hx4)
        have HBX4 := Lib.hid (HBX3.out.ext hx4)
        have HQX4 := Lib.hid (Blk.new W3 30 #[.pointer q])
        obtain ⟨Bq, hBq⟩ : ∃ Bq, W3.heap.size = Bq := ⟨_, rfl⟩
        rw [hBq] at HQX4
        rw [hBq]
        have hWq : wr.heap.size ≤ Bq := by have := HX3.out.size; omega
        clear hbx lB hx4 hBq
        generalize W3.alloc (.cells #[.pointer q] 30) = W4 at *
        have HST6 := Lib.hid ((HST.out.ext HX4.out).more (Nat.le_succ j))
        have HBE6 := Lib.hid (HBL.out.trans (HX4.out.below.mono hbz))
        have HBX6 := HBX4
        generalize W4 = W6 at *
        have hbx := HBX6.out.c3
        have lB := HBX6.out.lt
        go_wp2_with fail
        refine (HST6.out.same).mono ?_
        rintro e W7 ⟨rfl, hb7⟩
        have HST7 := Lib.hid (HST6.out.below hb7)
        have HB7 := Lib.hid (HBE6.out.trans (hb7.mono HBE6.out.size))
        have HBX7 := Lib.hid (HBX6.out.agree (Agree.of_below hb7 fun _ h => h) HBX6.out.lt)
        replace hbx := HBX7.out.c3
        replace lB := HBX7.out.lt
        clear hb7
        go_wp2_with fail
        refine (HST7.out.asks vv hvl).mono ?_
        rintro e W8 ⟨rfl, hb8⟩
        have HST8 := Lib.hid (HST7.out.below hb8)
        have HB8 := Lib.hid (HB7.out.trans (hb8.mono HB7.out.size))
        clear hb8
        go_wp2_with fail
        go_roundw
        case rel => exact ⟨j + 1, L, _, _, _, _, _, hlt, rfl, by go_num, HST8.out, HB8.out⟩
        case measure => simp [intOf]; omega
    · obtain rfl : j = acts.length := by omega
      have g4 : ¬ (acts.length : Int) < (acts.length : Int) := by omega
      go_wp2_with fail
      refine (known19 wr).mono ?_
      rintro e w9 ⟨rfl, hx9⟩
      have HB9 := Lib.hid (HBL.out.trans (hx9.below.mono hbz))
      clear hx9
      go_wp2_with fail
      go_ret
      exact ⟨rfl, HB9.out⟩
theorem logplays_w (keep : Int) (s : Sl) (acts : List LL) (w : World) (hk : (Lit.int .i64 keep).wf = true) (ha : LCS w (Lt w.heap.size) s acts) :
    Calls Try.prog 9 #[.int .i64 keep, .slice s.a acts.length s.c] w fun e w' => e = .returned (.bool true) ∧ Below w.heap.size w w' := by
  by_cases h : 1 ≤ keep ∧ keep ≤ 1024
  · obtain ⟨kn, rfl⟩ : ∃ kn : Nat, keep = (kn : Int) := ⟨keep.toNat, by omega⟩
    by_cases h3 : acts.length ≤ 300
    · exact logplays_main kn s acts w (by omega) h3 ha
    · exact logplays_many kn s acts.length w h (by omega)
  · exact logplays_else keep s acts.length w h
end Go.Proofs.Ytpapoalgocmlaaa
