/- What the theorem needs of the texts TreeOf: no condition of its own. -/
import Derived.Test.YtohajcflklejjaaPoa
import Derived.Test.YtohajcflklejjaaPob
import Derived.Test.YtohajcflklejjaaPoc
import Derived.Test.YtohajcflklejjaaPod
import Derived.Test.YtohajcflklejjaaPoe
import Derived.Test.YtohajcflklejjaaPof
import Derived.Test.YtohajcflklejjaaPog
namespace Go.Proofs.Ytohajcflklejjaa
open Go.RowKit
set_option linter.unusedVariables false
set_option linter.unusedSimpArgs false
theorem map_new {H : Nat → Prop} {w5 w6 : World} {s1 : Sl} {ys : List LE} {F : Nat → Prop} {M base : Nat} {es : List Ent} (hM : H M) (hF : ∀ b, F b → b < w5.heap.size) (hH : ∀ b, F b → ¬ H b) (hO : w6.ownsRow base 63 7 (.slice s1.a ys.length s1.c) ys.length (flatE ys))
    (hb : ∀ b, base ≤ b → b < w6.heap.size → ¬ H b) (hv : Vals w5 F ys) (hx : Ext w5 w6) (hby : ys.length * 104 ≤ 140737488355328) (hys : ys.map LE.ent = es) (hMn : M = w6.heap.size) :
    MapAt H (w6.alloc (.cells #[.slice s1.a ys.length s1.c] 42)) M es := by
  subst hMn
  have hE : Ext w6 (w6.alloc (.cells #[.slice s1.a ys.length s1.c] 42)) := (Ext.refl _).alloc _ _
  have hX := hx.trans hE
  refine ⟨hM, s1, ys, Blk.new w6 _ _, ⟨?_, ?_, hby⟩, hys⟩
  · refine ((Rd.of_own hO).agree (hE.agree fun i hi => hi.2)).mono fun i hi => ⟨by rw [World.size_alloc]; have := hi.2; omega, hb i hi.1 hi.2⟩
  · intro x hxm
    exact ⟨((hv x hxm).1.agree (hX.agree fun i hi => hF i hi)).mono fun i hi => ⟨Nat.lt_of_lt_of_le (hF i hi) hX.size, hH i hi⟩, (hv x hxm).2⟩
set_option maxRecDepth 100000 in
set_option maxHeartbeats 8000000 in
theorem treeof_w (d : Sh) (se sk : Sl) (s : Sl) (acts : List LA) (w : World) (hd : RS w (Lt w.heap.size) d se sk ∧ nodesS d ≤ 1048576) (ha : AS w (Lt w.heap.size) s acts) :
    Calls Try.prog 3 #[aggS d se sk, .slice s.a acts.length s.c] w fun e w' => e = .returned (.bool true) ∧ Ext w w' := by
  obtain ⟨i0, hi, hz0, hz1, hz2⟩ := info_parts Try.infoEntry
  obtain ⟨hr, hnb⟩ := hd
  have hfew := ha.few
  have HR := Lib.hid hr
  have HA := Lib.hid ha
  have HN := Lib.hid (fun (W : World) (hW : Ext w W) => nodes06 _ d (Nat.le_refl _) (by omega) W se sk (hr.ext hW))
  have HO := Lib.hid (fun (W : World) (hW : Ext w W) => treeOf_any (by omega) (hr.ext hW))
  have HM := Lib.hid (fun (h2 : nodesS d ≤ 200) (W : World) (hW : Ext w W) => may06 _ d (Nat.le_refl _) (by omega) W se sk (hr.ext hW))
  have HS := Lib.hid (fun (W : World) (hW : Ext w W) => sound06 _ d (Nat.le_refl _) true W se sk (hr.ext hW))
  have HF := Lib.hid (fun (hl : (flatS d).length ≤ 1000000) (W : World) (hW : Ext w W) => flat06 _ d (Nat.le_refl _) hl W (Lt w.heap.size) se sk (fun b hb => Nat.lt_of_lt_of_le hb hW.size) (hr.agree (hW.agree fun _ h => h)))
  have HSM := Lib.hid (fun (W : World) (hW : Ext w W) (s1 s2 : Sl) (h : RS W (Lt W.heap.size) d s1 s2) => same06 _ d (Nat.le_refl _) W s1 s2 se sk h (hr.ext hW))
  simp only [aggS] at HN HO HM HS HF HSM ⊢
  obtain ⟨nk, hnk⟩ : ∃ n, d.ks.length = n := ⟨_, rfl⟩
  obtain ⟨ne, hne⟩ : ∃ n, d.es.length = n := ⟨_, rfl⟩
  rw [hnk, hne] at HN HO HM HS HF HSM ⊢
  have HLK := Lib.hid hnk
  have HLE := Lib.hid hne
  obtain ⟨nn, hnn⟩ : ∃ n, nodesS d = n := ⟨_, rfl⟩
  rw [hnn] at HN
  have HNN := Lib.hid hnn
  have hnb2 : nn ≤ 1048576 := by omega
  clear hr ha hnk hne hnn hnb
  by_cases h200 : 200 < nn
  · have g1 : (200 : Int) < (nn : Int) := by omega
    go_enter Try.func3, Try.ntmps3
    go_wp2_with fail
    refine (HN.out _ ((Ext.refl w).alloc _ _)).mono ?_
    rintro e w1 ⟨rfl, hx1⟩
    go_wp2_with fail
    refine (known07 w1).mono ?_
    rintro e w9 ⟨rfl, hx9⟩
    go_wp2_with fail
    go_ret
    exact ⟨rfl, (((Ext.refl w).alloc _ _).trans hx1).trans hx9⟩
  · have g1 : ¬ (200 : Int) < (nn : Int) := by omega
    by_cases h60 : 60 < acts.length
    · have g2 : (60 : Int) < (acts.length : Int) := by omega
      go_enter Try.func3, Try.ntmps3
      go_wp2_with fail
      refine (HN.out _ ((Ext.refl w).alloc _ _)).mono ?_
      rintro e w1 ⟨rfl, hx1⟩
      go_wp2_with fail
      refine (known07 w1).mono ?_
      rintro e w9 ⟨rfl, hx9⟩
      go_wp2_with fail
      go_ret
      exact ⟨rfl, (((Ext.refl w).alloc _ _).trans hx1).trans hx9⟩
    · have g2 : ¬ (60 : Int) < (acts.length : Int) := by omega
      have hn2 : nodesS d ≤ 200 := by rw [HNN.out]; omega
      have HM2 := Lib.hid (HM.out hn2)
      clear HM
      go_enter Try.func3, Try.ntmps3
      go_wp2_with fail
      generalize hW0 : World.alloc _ _ = W0
      have hx0 : Ext w W0 := by rw [← hW0]; exact (Ext.refl w).alloc _ _
      have hb0 : Blk W0 w.heap.size 25 #[.slice se.a ne se.c, .slice sk.a nk sk.c] := by rw [← hW0]; exact Blk.new w _ _
      clear hW0
      refine (HN.out _ hx0).mono ?_
      rintro e w1 ⟨rfl, hx1⟩
      replace hb0 := hb0.ext hx1
      replace hx1 := hx0.trans hx1
      have c0 : w1.cell? ⟨w.heap.size, 0, none⟩ = some (.slice se.a ne se.c) := hb0.cell 0
      have c1 : w1.cell? ⟨w.heap.size, 1, none⟩ = some (.slice sk.a nk sk.c) := hb0.cell 1
      have HB0 := Lib.hid hb0
      have HX1 := Lib.hid hx1
      clear hb0 hx1 hx0
      go_wp2_with fail
      refine (HO.out w1 HX1.out).mono ?_
      rintro e w2 (⟨⟨hmy, hso, hfl⟩, a, rfl, hka, hth, hna, hx2⟩ | ⟨hno, rfl, hx2⟩)
      · obtain ⟨ah, at_⟩ := a
        have hT := hka.okR hmy hth hfl
        have hen : entsT (some ⟨ah, at_⟩) = flatS d := hka.fl.symm
        have hsh : shOf ah at_ = d := hka.sh
        have hfle : (flatS d).length ≤ 1600 := by have := mayS_flat d hmy; omega
        have hb2 := HB0.out.ext hx2
        have c0 : w2.cell? ⟨w.heap.size, 0, none⟩ = some (.slice se.a ne se.c) := hb2.cell 0
        have c1 : w2.cell? ⟨w.heap.size, 1, none⟩ = some (.slice sk.a nk sk.c) := hb2.cell 1
        have l0 := hb2.lt
        have HX2 := Lib.hid (HX1.out.trans hx2)
        have HB2 := Lib.hid hb2
        have hz2' := HX2.out.size
        have HT := Lib.hid hT
        have HEN := Lib.hid hen
        have HSH := Lib.hid hsh
        have HNA := Lib.hid hna
        have HMY := Lib.hid hmy
        have HSO := Lib.hid hso
        have HFL := Lib.hid (And.intro hfl hfle)
        have hzz := hx2.size
        have hzz1 := HX1.out.size
        clear hx2 hb2 hT hen hsh hna hmy hso hfl hfle hka hth
        rw [HMY.out] at HM2
        rw [HSO.out] at HS
        go_wp2_with fail
        clear c0 c1
        generalize hW3 : World.alloc w2 _ = W3
        have hx3 : Ext w2 W3 := by rw [← hW3]; exact (Ext.refl w2).alloc _ _
        have hb3 : Blk W3 w2.heap.size 32 #[.pointer (some ⟨addr ah at_, 0, none⟩)] := by rw [← hW3]; exact Blk.new w2 _ _
        clear hW3
        have HX3 := Lib.hid (HX2.out.trans hx3)
        have HX23 := Lib.hid hx3
        have HB3 := Lib.hid hb3
        clear hx3 hb3
        refine (HM2.out _ HX3.out).mono ?_
        rintro e w4 ⟨rfl, hx4⟩
        have HX4 := Lib.hid (HX3.out.trans hx4)
        have HX24 := Lib.hid (HX23.out.trans hx4)
        have HT4 := Lib.hid (HB3.out.ext hx4)
        have hb4 := HB2.out.ext HX24.out
        have c0 : w4.cell? ⟨w.heap.size, 0, none⟩ = some (.slice se.a ne se.c) := hb4.cell 0
        have c1 : w4.cell? ⟨w.heap.size, 1, none⟩ = some (.slice sk.a nk sk.c) := hb4.cell 1
        clear hx4 hb4
        go_wp2_with fail
        clear c0 c1
        refine (HS.out _ HX4.out).mono ?_
        rintro e w5 ⟨rfl, hx5⟩
        have HX5 := Lib.hid (HX4.out.trans hx5)
        have HX25 := Lib.hid (HX24.out.trans hx5)
        have HT5 := Lib.hid (HT4.out.ext hx5)
        have hb5 := HB2.out.ext HX25.out
        have c0 : w5.cell? ⟨w.heap.size, 0, none⟩ = some (.slice se.a ne se.c) := hb5.cell 0
        have c1 : w5.cell? ⟨w.heap.size, 1, none⟩ = some (.slice sk.a nk sk.c) := hb5.cell 1
        clear hx5 hb5
        go_wp2_with fail
        clear c0 c1
        refine (HF.out (by have := HFL.out.2; omega) _ HX5.out).mono ?_
        rintro e w6 ⟨sf, xs, rfl, hxs, -, -, -, hx6⟩
        have hxl : xs.length = (flatS d).length := by rw [← hxs, List.length_map]
        have hnz : ((xs.length : Int) == 0) = false := beq_eq_false_iff_ne.2 (by have := HFL.out.1; omega)
        have HX6 := Lib.hid (HX5.out.trans hx6)
        have HX26 := Lib.hid (HX25.out.trans hx6)
        have HT6 := Lib.hid (HT5.out.ext hx6)
        have hb6 := HB2.out.ext HX26.out
        have c0 : w6.cell? ⟨w.heap.size, 0, none⟩ = some (.slice se.a ne se.c) := hb6.cell 0
        have c1 : w6.cell? ⟨w.heap.size, 1, none⟩ = some (.slice sk.a nk sk.c) := hb6.cell 1
        clear hx6 hb6 hxs hxl
        go_wp2_with fail
        clear c0 c1
        refine (HF.out (by have := HFL.out.2; omega) _ HX6.out).mono ?_
        rintro e w7 ⟨sg, ys, rfl, hys, hrd, hvl, hby, hx7⟩
        have hyl : ys.length = (flatS d).length := by rw [← hys, List.length_map]
        have h63 : ys.length ≤ maxLen := by have := HFL.out.2; unfold maxLen; omega
        have HX7 := Lib.hid (HX6.out.trans hx7)
        have HX27 := Lib.hid (HX26.out.trans hx7)
        have HT7 := Lib.hid (HT6.out.ext hx7)
        have HRD := Lib.hid hrd
        have HVL := Lib.hid hvl
        have HYS := Lib.hid hys
        clear hx7 hrd hvl hys hyl hnz
        go_wp2_with (at_builtin; refine wpList_append_0 rfl (.const (.slice none 0 0)) (.tmp 50) 22 rfl w7.heap.size 63 i0 _ 7 104 Try.underlying22 hi hz0 hz1 hz2 rfl (by decide) rfl (Lt w7.heap.size) sg ys.length (flatE ys) rfl HRD.out (flatE_one _) h63 hby (Nat.le_refl _) ?_; intro s1 w8 hown1 hx8; have HO1 := Lib.hid hown1; have HX8 := Lib.hid hx8; clear hown1 hx8)
        have hz8 := HX8.out.size
        have hz27 := HX27.out.size
        have hT7 := HT7.out.lt
        obtain ⟨H, hH⟩ : ∃ H : Nat → Prop, H = fun b => b = w2.heap.size ∨ b = w8.heap.size := ⟨_, rfl⟩
        have hmap : MapAt H (w8.alloc (.cells #[.slice s1.a ys.length s1.c] 42)) w8.heap.size (flatS d) :=
          map_new (F := Lt w.heap.size) (by rw [hH]; exact .inr rfl) (fun b (hb : b < w.heap.size) => by omega) (fun b (hb : b < w.heap.size) => by rw [hH]; show ¬ (_ ∨ _); omega) HO1.out (fun b h1 h2 => by rw [hH]; show ¬ (_ ∨ _); omega) HVL.out HX8.out hby HYS.out rfl
        generalize hW9 : World.alloc w8 _ = W9 at *
        have hx9 : Ext w8 W9 := by rw [← hW9]; exact (Ext.refl w8).alloc _ _
        have hz9 : W9.heap.size = w8.heap.size + 1 := by rw [← hW9]; simp
        clear hW9
        have HX9 := Lib.hid ((HX7.out.trans HX8.out).trans hx9)
        have HX29 := Lib.hid ((HX27.out.trans HX8.out).trans hx9)
        have hb9 := (HT7.out.ext HX8.out).ext hx9
        have hI : PlayI H w8.heap.size (some ⟨ah, at_⟩) W9 := ⟨by rw [HEN.out]; exact hmap, by
          refine show IsN W9 (NH H W9) ah at_ from (HNA.out.agree (HX29.out.agree fun i hi => hi.2)).mono fun i hi => ⟨Nat.lt_of_lt_of_le hi.2 HX29.out.size, ?_⟩
          rw [hH]
          have := hi.2
          show ¬ (_ ∨ _)
          omega, HT.out⟩
        have hNW : ∀ W, Ext W9 W → IsN W (Lt W.heap.size) ah at_ := fun W hW => (HNA.out.agree ((HX29.out.trans hW).agree fun i hi => hi.2)).mono fun i hi => Nat.lt_of_lt_of_le hi.2 (HX29.out.trans hW).size
        have HSP := Lib.hid (show ∀ W, Ext W9 W → Calls Try.prog 12 #[.pointer (some ⟨addr ah at_, 0, none⟩)] W fun e w' => ∃ s2 k2, e = .returned (.agg #[.slice s2.a ne s2.c, .slice k2.a nk k2.c]) ∧ Ext W w' ∧ RS w' (Lt w'.heap.size) d s2 k2 from fun W hW => by
          refine (shape_any ah at_ W (hNW W hW) HT.out.1).mono ?_
          rintro e w' ⟨s2, k2, rfl, hx, hr⟩
          rw [HSH.out] at hr ⊢
          exact ⟨s2, k2, by rw [aggS, HLK.out, HLE.out], hx, hr.mono fun i hi => hi.2⟩)
        have HSS := Lib.hid (show ∀ W, Ext W9 W → W.cell? ⟨w2.heap.size, 0, none⟩ = some (.pointer (some ⟨addr ah at_, 0, none⟩)) ∧ W.cell? ⟨w.heap.size, 0, none⟩ = some (.slice se.a ne se.c) ∧ W.cell? ⟨w.heap.size, 1, none⟩ = some (.slice sk.a nk sk.c) from
          fun W hW => ⟨(hb9.ext hW).cell 0, (HB2.out.ext (HX29.out.trans hW)).cell 0, (HB2.out.ext (HX29.out.trans hW)).cell 1⟩)
        have HI0 := Lib.hid hI
        have HB9 := Lib.hid hb9
        have HH := Lib.hid hH
        clear hx9 hmap hI hb9 hNW hH
        go_wp2_with fail
        refine wp_region_held_drew (S := (fun w' => Ext W9 w')) (by kernel_rfl) (((Ext.refl W9).drew)) (fun hHeld => ?_)
        refine held_on (i := 0) (d := (some 54)) (v := ?_) rfl rfl (by kernel_rfl) (by kernel_rfl) (by kernel_rfl) (fun _ _ _ h => h) (by rfl) hHeld ?_ ?_
        rotate_left
        focus (intro w hSw; have hSc := HSS.out w hSw; clear hSw; go_simp; first | done | with_reducible rfl)
        try simp only [Act.put, List.setIfInBounds_toArray, List.set_cons_zero, List.set_cons_succ]
        refine held_on (i := 1) (d := (some 55)) (v := ?_) rfl rfl (by kernel_rfl) (by kernel_rfl) (by kernel_rfl) (fun _ _ _ h => h) (by rfl) hHeld ?_ ?_
        rotate_left
        focus (intro w hSw; have hSc := HSS.out w hSw; clear hSw; go_simp; first | done | with_reducible rfl)
        try simp only [Act.put, List.setIfInBounds_toArray, List.set_cons_zero, List.set_cons_succ]
        refine held_on (i := 2) (d := (some 56)) (v := ?_) rfl rfl (by kernel_rfl) (by kernel_rfl) (by kernel_rfl) (fun _ _ _ h => h) (by rfl) hHeld ?_ ?_
        rotate_left
        focus (intro w hSw; have hSc := HSS.out w hSw; clear hSw; go_simp; first | done | with_reducible rfl)
        try simp only [Act.put, List.setIfInBounds_toArray, List.set_cons_zero, List.set_cons_succ]
        refine held_on (i := 3) (d := (some 57)) (v := ?_) rfl rfl (by kernel_rfl) (by kernel_rfl) (by kernel_rfl) (fun _ _ _ h => h) (by rfl) hHeld ?_ ?_
        rotate_left
        focus (intro w hSw; have hSc := HSS.out w hSw; clear hSw; go_simp; first | done | with_reducible rfl)
        try simp only [Act.put, List.setIfInBounds_toArray, List.set_cons_zero, List.set_cons_succ]
        refine held_on (i := 6) (d := (some 60)) (v := ?_) rfl rfl (by kernel_rfl) (by kernel_rfl) (by kernel_rfl) (fun _ _ _ h => h) (by rfl) hHeld ?_ ?_
        rotate_left
        focus (intro w hSw; have hSc := HSS.out w hSw; clear hSw; go_simp; first | done | with_reducible rfl)
        try simp only [Act.put, List.setIfInBounds_toArray, List.set_cons_zero, List.set_cons_succ]
        refine held_call (i := 4) (by kernel_rfl) rfl (by rfl) (fun K hK => ?_)
        go_simp
        (refine (treeRoot_any _ _).mono ?_; rintro e w10 ⟨rfl, hx10⟩)
        refine hK.out _ _ (hHeld.trans hx10) (fun hHeld => ?_)
        clear hK K
        try simp only [Act.put, List.setIfInBounds_toArray, List.set_cons_zero, List.set_cons_succ]
        refine held_call (i := 5) (by kernel_rfl) rfl (by rfl) (fun K hK => ?_)
        go_simp
        (refine (HSP.out _ hHeld).mono ?_; rintro e w11 ⟨s2, k2, rfl, hx11, hrs⟩)
        refine hK.out _ _ (hHeld.trans hx11) (fun hHeld => ?_)
        clear hK K
        try simp only [Act.put, List.setIfInBounds_toArray, List.set_cons_zero, List.set_cons_succ]
        refine held_call (i := 7) (by kernel_rfl) rfl (by rfl) (fun K hK => ?_)
        go_simp
        (refine (HSM.out _ (HX9.out.trans hHeld) s2 k2 hrs).mono ?_; rintro e w12 ⟨rfl, hx12⟩)
        refine hK.out _ _ (hHeld.trans hx12) (fun hHeld => ?_)
        clear hK K
        try simp only [Act.put, List.setIfInBounds_toArray, List.set_cons_zero, List.set_cons_succ]
        refine held_on (i := 8) (d := (some 62)) (v := ?_) rfl rfl (by kernel_rfl) (by kernel_rfl) (by kernel_rfl) (fun _ _ _ h => h) (by rfl) hHeld ?_ ?_
        rotate_left
        focus (intro w hSw; have hSc := HSS.out w hSw; clear hSw; go_simp; first | done | with_reducible rfl)
        try simp only [Act.put, List.setIfInBounds_toArray, List.set_cons_zero, List.set_cons_succ]
        refine held_on (i := 9) (d := (some 63)) (v := ?_) rfl rfl (by kernel_rfl) (by kernel_rfl) (by kernel_rfl) (fun _ _ _ h => h) (by rfl) hHeld ?_ ?_
        rotate_left
        focus (intro w hSw; have hSc := HSS.out w hSw; clear hSw; go_simp; first | done | with_reducible rfl)
        try simp only [Act.put, List.setIfInBounds_toArray, List.set_cons_zero, List.set_cons_succ]
        refine wpAnyH_done (by kernel_rfl) ?_ _
        have hI12 := HI0.out.ext hHeld
        have hb12 := HB9.out.ext hHeld
        have hz12 := hHeld.size
        have hX12 := HX9.out.trans hHeld
        have HI1 := Lib.hid hI12
        have HBT0 := Lib.hid (show Blk w12 w2.heap.size 32 #[rootV (some ⟨ah, at_⟩)] from hb12)
        have HX12 := Lib.hid hX12
        have hlT0 : (entsT (some ⟨ah, at_⟩)).length ≤ 1600 := by rw [HEN.out]; exact HFL.out.2
        have HLT0 := Lib.hid hlT0
        clear hHeld hI12 hb12 hX12 hx10 hx11 hx12 hrs hlT0
        go_wp2_with fail
        go_loopw [8] (fun i wr => ∃ (j : Nat) (T : RT), j ≤ acts.length ∧ i = .int .i64 j ∧ (entsT T).length ≤ j + 1600 ∧ PlayI H w8.heap.size T wr ∧ Blk wr w2.heap.size 32 #[rootV T] ∧ Ext w wr ∧ w8.heap.size + 1 ≤ wr.heap.size) (fun i _ => acts.length - (intOf i).toNat)
        case atStart => exact ⟨0, _, Nat.zero_le _, rfl, by have := HLT0.out; omega, HI1.out, HBT0.out, HX12.out, by omega⟩
        case round =>
          obtain ⟨j, T, hj, rfl, hlT, hI, hbT, hX, hsz⟩ := hrel
          have HI := Lib.hid hI
          have HBT := Lib.hid hbT
          have HX := Lib.hid hX
          by_cases hlt : j < acts.length
          · have g1 : (j : Int) < (acts.length : Int) := by omega
            obtain ⟨a, haa⟩ : ∃ a, acts[j]? = some a := ⟨_, List.getElem?_eq_getElem hlt⟩
            obtain ⟨p, hp⟩ := rootV_ptr T
            rw [hp] at hbT
            have haW := HA.out.agree (hX.agree fun _ h => h)
            obtain ⟨b, o, hsa, lb, hcc, hcm, ⟨a0, a1, av⟩, hrv, hkm, hwf⟩ := haW.at haa
            obtain ⟨v0, v1, v2, v3, v4, v5⟩ := av
            obtain ⟨sa, sc⟩ := s
            dsimp only at hsa hcc hcm
            subst hsa
            have lb : b < w.heap.size := lb
            have hHw : ∀ b, H b → w.heap.size ≤ b ∧ b < w8.heap.size + 1 := fun b hb => by rw [HH.out] at hb; rcases hb with rfl | rfl <;> omega
            have hdo := doI (a := a) hI (fun b hb => Nat.lt_of_lt_of_le (hHw b hb).2 hsz) (by omega) hkm (hrv.mono fun i (hi : i < w.heap.size) => ⟨by omega, fun hh => by have := (hHw i hh).1; omega⟩) hp
            have t0 : wr.cell? ⟨w2.heap.size, 0, none⟩ = some (.pointer p) := hbT.cell 0
            have HSS := Lib.hid (show ∀ W, St (fun b => b = w8.heap.size) wr W → W.cell? ⟨w2.heap.size, 0, none⟩ = some (.pointer p) ∧ W.cell? ⟨b, o + j * 8, none⟩ = some (.int .i64 a.kd) ∧ W.cell? ⟨b, o + j * 8 + 1, none⟩ = some (.string a.k) ∧ W.cell? ⟨b, o + j * 8 + 2, none⟩ = some (.int .i64 a.v.kind) ∧ W.cell? ⟨b, o + j * 8 + 3, none⟩ = some (.bool a.v.b) ∧ W.cell? ⟨b, o + j * 8 + 4, none⟩ = some (.int .i64 a.v.i) ∧ W.cell? ⟨b, o + j * 8 + 5, none⟩ = some (.string a.v.t) ∧ W.cell? ⟨b, o + j * 8 + 6, none⟩ = some (.slice a.sl.a a.v.l.length a.sl.c) ∧ W.cell? ⟨b, o + j * 8 + 7, none⟩ = some (.slice a.so.a a.v.ok.length a.so.c) from
              fun W hW => ⟨(hW.cell (by omega) (by omega)).trans t0, (hW.cell (by omega) (by omega)).trans a0, (hW.cell (by omega) (by omega)).trans a1, (hW.cell (by omega) (by omega)).trans v0, (hW.cell (by omega) (by omega)).trans v1, (hW.cell (by omega) (by omega)).trans v2, (hW.cell (by omega) (by omega)).trans v3, (hW.cell (by omega) (by omega)).trans v4, (hW.cell (by omega) (by omega)).trans v5⟩)
            have HDO := Lib.hid hdo
            have HHW := Lib.hid hHw
            clear hI hbT hX haa haW hrv a0 a1 v0 v1 v2 v3 v4 v5 hdo t0 hp hHw
            go_wp2_with fail
            refine wp_region_held_drew (S := (fun w' => St (fun b => b = w8.heap.size) wr w')) (by kernel_rfl) (((St.refl _ wr).drew)) (fun hHeld => ?_)
            refine held_on (i := 0) (d := (some 71)) (v := ?_) rfl rfl (by kernel_rfl) (by kernel_rfl) (by kernel_rfl) (fun _ _ _ h => h) (by rfl) hHeld ?_ ?_
            rotate_left
            focus (intro w hSw; have hSc := HSS.out w hSw; clear hSw; go_simp; first | done | with_reducible rfl)
            try simp only [Act.put, List.setIfInBounds_toArray, List.set_cons_zero, List.set_cons_succ]
            refine held_on (i := 1) (d := (some 72)) (v := ?_) rfl rfl (by kernel_rfl) (by kernel_rfl) (by kernel_rfl) (fun _ _ _ h => h) (by rfl) hHeld ?_ ?_
            rotate_left
            focus (intro w hSw; have hSc := HSS.out w hSw; clear hSw; go_simp; first | done | with_reducible rfl)
            try simp only [Act.put, List.setIfInBounds_toArray, List.set_cons_zero, List.set_cons_succ]
            refine held_on (i := 2) (d := (some 73)) (v := ?_) rfl rfl (by kernel_rfl) (by kernel_rfl) (by kernel_rfl) (fun _ _ _ h => h) (by rfl) hHeld ?_ ?_
            rotate_left
            focus (intro w hSw; have hSc := HSS.out w hSw; clear hSw; go_simp; first | done | with_reducible rfl)
            try simp only [Act.put, List.setIfInBounds_toArray, List.set_cons_zero, List.set_cons_succ]
            refine held_on (i := 3) (d := (some 74)) (v := ?_) rfl rfl (by kernel_rfl) (by kernel_rfl) (by kernel_rfl) (fun _ _ _ h => h) (by rfl) hHeld ?_ ?_
            rotate_left
            focus (intro w hSw; have hSc := HSS.out w hSw; clear hSw; go_simp; first | done | with_reducible rfl)
            try simp only [Act.put, List.setIfInBounds_toArray, List.set_cons_zero, List.set_cons_succ]
            refine held_on (i := 4) (d := (some 75)) (v := ?_) rfl rfl (by kernel_rfl) (by kernel_rfl) (by kernel_rfl) (fun _ _ _ h => h) (by rfl) hHeld ?_ ?_
            rotate_left
            focus (intro w hSw; have hSc := HSS.out w hSw; clear hSw; go_simp; first | done | with_reducible rfl)
            try simp only [Act.put, List.setIfInBounds_toArray, List.set_cons_zero, List.set_cons_succ]
            refine held_on (i := 5) (d := (some 76)) (v := ?_) rfl rfl (by kernel_rfl) (by kernel_rfl) (by kernel_rfl) (fun _ _ _ h => h) (by rfl) hHeld ?_ ?_
            rotate_left
            focus (intro w hSw; have hSc := HSS.out w hSw; clear hSw; go_simp; first | done | with_reducible rfl)
            try simp only [Act.put, List.setIfInBounds_toArray, List.set_cons_zero, List.set_cons_succ]
            refine held_two (i := 6) (j := 10) (by kernel_rfl) rfl rfl (by rfl) (by rfl) (fun K hK => ?_) (fun K hK => ?_)
            · go_simp
              (refine (HDO.out _ ((Ext.refl wr).drew)).mono ?_; rintro e w2' ⟨T', p', rfl, hp', hst', hI', hs2⟩; have HP' := Lib.hid hp'; have HST' := Lib.hid hst'; have HI' := Lib.hid hI'; clear hp' hst' hI')
              refine hK.out _ _ (hHeld.trans hs2) (fun hHeld => ?_)
              clear hK K
              try simp only [Act.put, List.setIfInBounds_toArray, List.set_cons_zero, List.set_cons_succ]
              refine held_on (i := 7) (d := (some 70)) (v := ?_) rfl rfl (by kernel_rfl) (by kernel_rfl) (by kernel_rfl) (fun _ _ _ h => h) (by rfl) hHeld ?_ ?_
              rotate_left
              focus (intro w hSw; have hSc := HSS.out w hSw; clear hSw; go_simp; first | done | with_reducible rfl)
              try simp only [Act.put, List.setIfInBounds_toArray, List.set_cons_zero, List.set_cons_succ]
              refine held_on (i := 8) (d := (some 78)) (v := ?_) rfl rfl (by kernel_rfl) (by kernel_rfl) (by kernel_rfl) (fun _ _ _ h => h) (by rfl) hHeld ?_ ?_
              rotate_left
              focus (intro w hSw; have hSc := HSS.out w hSw; clear hSw; go_simp; first | done | with_reducible rfl)
              try simp only [Act.put, List.setIfInBounds_toArray, List.set_cons_zero, List.set_cons_succ]
              refine held_on (i := 9) (d := (some 79)) (v := ?_) rfl rfl (by kernel_rfl) (by kernel_rfl) (by kernel_rfl) (fun _ _ _ h => h) (by rfl) hHeld ?_ ?_
              rotate_left
              focus (intro w hSw; have hSc := HSS.out w hSw; clear hSw; go_simp; first | done | with_reducible rfl)
              try simp only [Act.put, List.setIfInBounds_toArray, List.set_cons_zero, List.set_cons_succ]
              refine held_call (i := 10) (by kernel_rfl) rfl (by rfl) (fun K hK => ?_)
              go_simp
              skip
              refine hK.out _ _ (hHeld.alloc _ _) (fun hHeld => ?_)
              clear hK K
              try simp only [Act.put, List.setIfInBounds_toArray, List.set_cons_zero, List.set_cons_succ]
              refine held_call (i := 11) (by kernel_rfl) rfl (by rfl) (fun K hK => ?_)
              go_simp
              (have hsf := hHeld)
              refine hK.out _ _ ((((St.refl _ wr).drew).trans hs2).alloc _ _) (fun hHeld => ?_)
              clear hK K
              try simp only [Act.put, List.setIfInBounds_toArray, List.set_cons_zero, List.set_cons_succ]
              refine held_on (i := 12) (d := (some 10)) (v := ?_) rfl rfl (by kernel_rfl) (by kernel_rfl) (by kernel_rfl) (fun _ _ _ h => h) (by rfl) hHeld ?_ ?_
              rotate_left
              focus (intro w hSw; have hSc := HSS.out w hSw; clear hSw; go_simp; first | done | with_reducible rfl)
              try simp only [Act.put, List.setIfInBounds_toArray, List.set_cons_zero, List.set_cons_succ]
              refine wpAnyH_done (by kernel_rfl) ?_ _
              have hb6 := Blk.new w2' 32 #[.pointer p']
              have hx6 : Ext w2' (w2'.alloc (.cells #[.pointer p'] 32)) := (Ext.refl w2').alloc _ _
              have hsW : St (fun b => b = w8.heap.size) wr (w2'.alloc (.cells #[.pointer p'] 32)) := (((St.refl _ wr).drew).trans hs2).ext hx6
              have HI6 := Lib.hid (HI'.out.ext hx6)
              clear hx6 hsf hHeld
              generalize w2'.alloc (.cells #[.pointer p'] 32) = W6 at *
              generalize w2'.heap.size = B6 at *
              have c6 : W6.cell? ⟨_, 0, none⟩ = some (.pointer p') := hb6.cell 0
              have l6 := hb6.lt
              have hbT6 := hsW.blk HBT.out (show ¬ w2.heap.size = w8.heap.size by omega)
              have HSW := Lib.hid hsW
              have hswz := hsW.size
              have hlen' : (entsT T').length ≤ j + 1 + 1600 := by
                rw [HST'.out.ents HI.out.ok]
                have := stepE_len a.kd a.k a.v (entsT T)
                omega
              clear hsW hb6 hs2
              go_wp2_with fail
              refine (sndI HI6.out (by omega) HP'.out W6 (Ext.refl W6)).mono ?_
              rintro e w7' ⟨rfl, hx7⟩
              have hbT7 := hbT6.ext hx7
              replace c6 := (hx7.cell l6).trans c6
              obtain ⟨pT, hpT⟩ := rootV_ptr T
              rw [hpT] at hbT7
              have q7 : w7'.cell? ⟨w2.heap.size, 0, none⟩ = some (.pointer pT) := hbT7.cell 0
              have fz7 := hbT7.frozen 0
              have lz7 := hbT7.lt
              have HBT7 := Lib.hid hbT7
              have HX7' := Lib.hid hx7
              have hz7 := hx7.size
              clear hbT6 hbT7 hx7 hpT
              go_wp2_with fail
              have hset8 : St (fun b => b = w2.heap.size) w7' (w7'.setCell ⟨w2.heap.size, 0, none⟩ (.pointer p')) := (St.refl (fun b => b = w2.heap.size) w7').set (p := ⟨w2.heap.size, 0, none⟩) (.inr rfl) _
              have hHM : H w8.heap.size := by rw [HH.out]; exact .inr rfl
              have hI8 : PlayI H w8.heap.size T' (w7'.setCell ⟨w2.heap.size, 0, none⟩ (.pointer p')) := ((HI6.out.ext HX7'.out).less (fun b hb => .inl hb) hHM).st hset8 (fun b hb => by rw [HH.out]; exact .inl hb) (by omega)
              have hb8 : Blk (w7'.setCell ⟨w2.heap.size, 0, none⟩ (.pointer p')) w2.heap.size 32 #[rootV T'] := by rw [HP'.out]; exact HBT7.out.set_ 0 _
              have hx8 : Ext w (w7'.setCell ⟨w2.heap.size, 0, none⟩ (.pointer p')) := ((HX.out.step HSW.out (fun b hb => by omega)).trans HX7'.out).setCell (p := ⟨w2.heap.size, 0, none⟩) hz2' _
              have HI8 := Lib.hid hI8
              have HB8 := Lib.hid hb8
              have HX8' := Lib.hid hx8
              clear hset8 hI8 hb8 hx8
              go_roundw
              case rel => exact ⟨j + 1, T', hlt, by go_num, hlen', HI8.out, HB8.out, HX8'.out, by rw [World.size_setCell]; omega⟩
              case measure => simp [intOf]; omega
            · go_simp
              skip
              refine hK.out _ _ (hHeld.alloc _ _) (fun hHeld => ?_)
              clear hK K
              try simp only [Act.put, List.setIfInBounds_toArray, List.set_cons_zero, List.set_cons_succ]
              refine held_call (i := 6) (by kernel_rfl) rfl (by rfl) (fun K hK => ?_)
              go_simp
              (refine (HDO.out _ (((Ext.refl wr).drew).alloc _ _)).mono ?_; rintro e w2' ⟨T', p', rfl, hp', hst', hI', hs2⟩; have HP' := Lib.hid hp'; have HST' := Lib.hid hst'; have HI' := Lib.hid hI'; clear hp' hst' hI'; have hb6 : Blk w2' wr.heap.size 32 #[.pointer none] := hs2.blk (Blk.new wr.drew 32 #[.pointer none]) (show ¬ wr.heap.size = w8.heap.size by omega); have c6 : w2'.cell? ⟨wr.heap.size, 0, none⟩ = some (.pointer none) := hb6.cell 0; have f6 := hb6.frozen 0; have l6 := hb6.lt)
              refine hK.out _ _ (hHeld.trans hs2) (fun hHeld => ?_)
              clear hK K
              try simp only [Act.put, List.setIfInBounds_toArray, List.set_cons_zero, List.set_cons_succ]
              refine held_on (i := 7) (d := (some 70)) (v := ?_) rfl rfl (by kernel_rfl) (by kernel_rfl) (by kernel_rfl) (fun _ _ _ h => h) (by rfl) hHeld ?_ ?_
              rotate_left
              focus (intro w hSw; have hSc := HSS.out w hSw; clear hSw; go_simp; first | done | with_reducible rfl)
              try simp only [Act.put, List.setIfInBounds_toArray, List.set_cons_zero, List.set_cons_succ]
              refine held_on (i := 8) (d := (some 78)) (v := ?_) rfl rfl (by kernel_rfl) (by kernel_rfl) (by kernel_rfl) (fun _ _ _ h => h) (by rfl) hHeld ?_ ?_
              rotate_left
              focus (intro w hSw; have hSc := HSS.out w hSw; clear hSw; go_simp; first | done | with_reducible rfl)
              try simp only [Act.put, List.setIfInBounds_toArray, List.set_cons_zero, List.set_cons_succ]
              refine held_on (i := 9) (d := (some 79)) (v := ?_) rfl rfl (by kernel_rfl) (by kernel_rfl) (by kernel_rfl) (fun _ _ _ h => h) (by rfl) hHeld ?_ ?_
              rotate_left
              focus (intro w hSw; have hSc := HSS.out w hSw; clear hSw; go_simp; first | done | with_reducible rfl)
              try simp only [Act.put, List.setIfInBounds_toArray, List.set_cons_zero, List.set_cons_succ]
              refine held_call (i := 11) (by kernel_rfl) rfl (by rfl) (fun K hK => ?_)
              go_simp
              skip
              refine hK.out _ _ (hHeld.set (p := ⟨wr.heap.size, 0, none⟩) (.inl (Nat.le_refl _)) _) (fun hHeld => ?_)
              clear hK K
              try simp only [Act.put, List.setIfInBounds_toArray, List.set_cons_zero, List.set_cons_succ]
              refine held_on (i := 12) (d := (some 10)) (v := ?_) rfl rfl (by kernel_rfl) (by kernel_rfl) (by kernel_rfl) (fun _ _ _ h => h) (by rfl) hHeld ?_ ?_
              rotate_left
              focus (intro w hSw; have hSc := HSS.out w hSw; clear hSw; go_simp; first | done | with_reducible rfl)
              try simp only [Act.put, List.setIfInBounds_toArray, List.set_cons_zero, List.set_cons_succ]
              refine wpAnyH_done (by kernel_rfl) ?_ _
              have hset6 : St (fun b => b = wr.heap.size) w2' (w2'.setCell ⟨wr.heap.size, 0, none⟩ (.pointer p')) := (St.refl (fun b => b = wr.heap.size) w2').set (p := ⟨wr.heap.size, 0, none⟩) (.inr rfl) _
              have hsW : St (fun b => b = w8.heap.size) wr (w2'.setCell ⟨wr.heap.size, 0, none⟩ (.pointer p')) := hHeld
              replace hb6 : Blk (w2'.setCell ⟨wr.heap.size, 0, none⟩ (.pointer p')) wr.heap.size 32 #[.pointer p'] := hb6.set_ 0 _
              have HI6 := Lib.hid (HI'.out.st hset6 (fun b hb => .inr ⟨by omega, by simp; omega⟩) (by omega))
              clear hset6 c6 f6 l6 hHeld
              generalize w2'.setCell ⟨wr.heap.size, 0, none⟩ (.pointer p') = W6 at *
              have c6 : W6.cell? ⟨_, 0, none⟩ = some (.pointer p') := hb6.cell 0
              have l6 := hb6.lt
              have hbT6 := hsW.blk HBT.out (show ¬ w2.heap.size = w8.heap.size by omega)
              have HSW := Lib.hid hsW
              have hswz := hsW.size
              have hlen' : (entsT T').length ≤ j + 1 + 1600 := by
                rw [HST'.out.ents HI.out.ok]
                have := stepE_len a.kd a.k a.v (entsT T)
                omega
              clear hsW hb6 hs2
              go_wp2_with fail
              refine (sndI HI6.out (by omega) HP'.out W6 (Ext.refl W6)).mono ?_
              rintro e w7' ⟨rfl, hx7⟩
              have hbT7 := hbT6.ext hx7
              replace c6 := (hx7.cell l6).trans c6
              obtain ⟨pT, hpT⟩ := rootV_ptr T
              rw [hpT] at hbT7
              have q7 : w7'.cell? ⟨w2.heap.size, 0, none⟩ = some (.pointer pT) := hbT7.cell 0
              have fz7 := hbT7.frozen 0
              have lz7 := hbT7.lt
              have HBT7 := Lib.hid hbT7
              have HX7' := Lib.hid hx7
              have hz7 := hx7.size
              clear hbT6 hbT7 hx7 hpT
              go_wp2_with fail
              have hset8 : St (fun b => b = w2.heap.size) w7' (w7'.setCell ⟨w2.heap.size, 0, none⟩ (.pointer p')) := (St.refl (fun b => b = w2.heap.size) w7').set (p := ⟨w2.heap.size, 0, none⟩) (.inr rfl) _
              have hHM : H w8.heap.size := by rw [HH.out]; exact .inr rfl
              have hI8 : PlayI H w8.heap.size T' (w7'.setCell ⟨w2.heap.size, 0, none⟩ (.pointer p')) := ((HI6.out.ext HX7'.out).less (fun b hb => .inl hb) hHM).st hset8 (fun b hb => by rw [HH.out]; exact .inl hb) (by omega)
              have hb8 : Blk (w7'.setCell ⟨w2.heap.size, 0, none⟩ (.pointer p')) w2.heap.size 32 #[rootV T'] := by rw [HP'.out]; exact HBT7.out.set_ 0 _
              have hx8 : Ext w (w7'.setCell ⟨w2.heap.size, 0, none⟩ (.pointer p')) := ((HX.out.step HSW.out (fun b hb => by omega)).trans HX7'.out).setCell (p := ⟨w2.heap.size, 0, none⟩) hz2' _
              have HI8 := Lib.hid hI8
              have HB8 := Lib.hid hb8
              have HX8' := Lib.hid hx8
              clear hset8 hI8 hb8 hx8
              go_roundw
              case rel => exact ⟨j + 1, T', hlt, by go_num, hlen', HI8.out, HB8.out, HX8'.out, by rw [World.size_setCell]; omega⟩
              case measure => simp [intOf]; omega
          · have g1 : ¬ (j : Int) < (acts.length : Int) := by omega
            clear hI hbT hX
            go_wp2_with fail
            refine (known07 wr).mono ?_
            rintro e w9 ⟨rfl, hx9⟩
            have HX9' := Lib.hid (HX.out.trans hx9)
            clear hx9
            go_wp2_with fail
            go_ret
            exact ⟨rfl, HX9'.out⟩
      · have hb2 := HB0.out.ext hx2
        have c0 : w2.cell? ⟨w.heap.size, 0, none⟩ = some (.slice se.a ne se.c) := hb2.cell 0
        have c1 : w2.cell? ⟨w.heap.size, 1, none⟩ = some (.slice sk.a nk sk.c) := hb2.cell 1
        have l0 := hb2.lt
        have HX2 := Lib.hid (HX1.out.trans hx2)
        have HB2 := Lib.hid hb2
        clear hx2 hb2
        have HNO := Lib.hid hno
        clear hno
        have HM3 := Lib.hid HM2.out
        have HS3 := Lib.hid HS.out
        clear HM2 HS
        go_wp2_with fail
        clear c0 c1
        generalize hW3 : World.alloc w2 _ = W3
        have hx3 : Ext w2 W3 := by rw [← hW3]; exact (Ext.refl w2).alloc _ _
        have hb3 : Blk W3 w2.heap.size 32 #[.pointer none] := by rw [← hW3]; exact Blk.new w2 _ _
        clear hW3
        have HX3 := Lib.hid (HX2.out.trans hx3)
        have HX23 := Lib.hid hx3
        have HB3 := Lib.hid hb3
        clear hx3 hb3
        refine (HM3.out _ HX3.out).mono ?_
        rintro e w4 ⟨rfl, hx4⟩
        have HX4 := Lib.hid (HX3.out.trans hx4)
        have HX24 := Lib.hid (HX23.out.trans hx4)
        have HT4 := Lib.hid (HB3.out.ext hx4)
        have hb4 := HB2.out.ext HX24.out
        have c0 : w4.cell? ⟨w.heap.size, 0, none⟩ = some (.slice se.a ne se.c) := hb4.cell 0
        have c1 : w4.cell? ⟨w.heap.size, 1, none⟩ = some (.slice sk.a nk sk.c) := hb4.cell 1
        clear hx4 hb4
        cases hmy : mayS d
        · clear hmy
          have q0 : w4.cell? ⟨w2.heap.size, 0, none⟩ = some (.pointer none) := HT4.out.cell 0
          go_wp2_with fail
          refine (treeRoot_any w4 (.pointer none)).mono ?_
          rintro e wa ⟨rfl, hxa⟩
          go_wp2_with fail
          refine (known07 wa).mono ?_
          rintro e wb ⟨rfl, hxb⟩
          go_wp2_with fail
          go_ret
          exact ⟨rfl, (HX4.out.trans hxa).trans hxb⟩
        · have HMY := Lib.hid hmy
          clear hmy
          go_wp2_with fail
          clear c0 c1
          refine (HS3.out _ HX4.out).mono ?_
          rintro e w5 ⟨rfl, hx5⟩
          have HX5 := Lib.hid (HX4.out.trans hx5)
          have HX25 := Lib.hid (HX24.out.trans hx5)
          have HT5 := Lib.hid (HT4.out.ext hx5)
          have hb5 := HB2.out.ext HX25.out
          have c0 : w5.cell? ⟨w.heap.size, 0, none⟩ = some (.slice se.a ne se.c) := hb5.cell 0
          have c1 : w5.cell? ⟨w.heap.size, 1, none⟩ = some (.slice sk.a nk sk.c) := hb5.cell 1
          clear hx5 hb5
          cases hso : soundS true d
          · clear hso
            have q0 : w5.cell? ⟨w2.heap.size, 0, none⟩ = some (.pointer none) := HT5.out.cell 0
            go_wp2_with fail
            refine (treeRoot_any w5 (.pointer none)).mono ?_
            rintro e wa ⟨rfl, hxa⟩
            go_wp2_with fail
            refine (known07 wa).mono ?_
            rintro e wb ⟨rfl, hxb⟩
            go_wp2_with fail
            go_ret
            exact ⟨rfl, (HX5.out.trans hxa).trans hxb⟩
          · have hfz : (flatS d).length = 0 := by
              have := HNO.out
              by_cases h : 0 < (flatS d).length
              · exact absurd ⟨HMY.out, hso, h⟩ this
              · omega
            have HFZ := Lib.hid hfz
            clear hso hfz
            go_wp2_with fail
            clear c0 c1
            refine (HF.out (by rw [HFZ.out]; omega) _ HX5.out).mono ?_
            rintro e w6 ⟨sf, xs, rfl, hxs, -, -, -, hx6⟩
            have hxl : xs.length = 0 := by rw [← HFZ.out, ← hxs, List.length_map]
            rw [hxl]
            have HX6 := Lib.hid (HX5.out.trans hx6)
            have HT6 := Lib.hid (HT5.out.ext hx6)
            clear hx6 hxs hxl
            have q0 : w6.cell? ⟨w2.heap.size, 0, none⟩ = some (.pointer none) := HT6.out.cell 0
            go_wp2_with fail
            refine (treeRoot_any w6 (.pointer none)).mono ?_
            rintro e wa ⟨rfl, hxa⟩
            go_wp2_with fail
            refine (known07 wa).mono ?_
            rintro e wb ⟨rfl, hxb⟩
            go_wp2_with fail
            go_ret
            exact ⟨rfl, (HX6.out.trans hxa).trans hxb⟩
end Go.Proofs.Ytohajcflklejjaa
