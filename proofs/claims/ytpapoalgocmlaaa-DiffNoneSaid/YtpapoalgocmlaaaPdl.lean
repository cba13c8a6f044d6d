/- What the theorem needs of the texts DiffNone: no condition of its own. -/
import Derived.Test.YtpapoalgocmlaaaPda
import Derived.Test.YtpapoalgocmlaaaPdb
import Derived.Test.YtpapoalgocmlaaaPdc
import Derived.Test.YtpapoalgocmlaaaPdd
import Derived.Test.YtpapoalgocmlaaaPde
import Derived.Test.YtpapoalgocmlaaaPdf
import Derived.Test.YtpapoalgocmlaaaPdg
import Derived.Test.YtpapoalgocmlaaaPdh
import Derived.Test.YtpapoalgocmlaaaPdi
import Derived.Test.YtpapoalgocmlaaaPdj
import Derived.Test.YtpapoalgocmlaaaPdk
namespace Go.Proofs.Ytpapoalgocmlaaa
open Go.RowKit Go.Shelf
set_option linter.unusedVariables false
set_option linter.unusedSimpArgs false
theorem fresh_none (T : RT) : freshR T none = 0 := rfl
set_option maxRecDepth 100000 in
set_option maxHeartbeats 8000000 in
theorem diffnone_w (s0 : Sl) (xs : List LE) (w : World) (hs : ES w (Lt w.heap.size) s0 xs) : Calls Try.prog 23 #[.slice s0.a xs.length s0.c] w fun e w' => e = .returned (.bool true) ∧ Ext w w' := by
  by_cases hbig : 100 < xs.length
  · have g : (100 : Int) < (xs.length : Int) := by omega
    clear hs hbig
    go_enter Try.func23, Try.ntmps23
    go_wp2_with fail
    refine (known09 w).mono ?_
    rintro e w9 ⟨rfl, hx9⟩
    go_wp2_with fail
    go_ret
    exact ⟨rfl, hx9⟩
  · have g : ¬ (100 : Int) < (xs.length : Int) := by omega
    have hxl : xs.length ≤ 100 := by omega
    have hx0 := (Ext.refl w).alloc #[.pointer none] 30
    have hb0 := Blk.new w 30 #[.pointer none]
    have hbd := build_any ((hs.agree (hx0.agree fun _ h => h)).mono fun i (hi : i < w.heap.size) => Nat.lt_of_lt_of_le hi hx0.size) (by omega : xs.length ≤ 100000)
    have HBD := Lib.hid hbd
    have HX0 := Lib.hid hx0
    have HB0 := Lib.hid hb0
    clear hs hbig hx0 hb0 hbd
    go_enter Try.func23, Try.ntmps23
    go_wp2_with fail
    refine HBD.out.mono ?_
    generalize w.alloc (.cells #[.pointer none] 30) = W0 at *
    rintro e w1 ⟨T, rfl, hbt, hT, hx1⟩
    obtain ⟨p, hp⟩ := rootV_ptr T
    rw [treeV, hp]
    have hx2 := hx1.alloc #[.pointer p] 30
    have hT2 := hT.agree (((Ext.refl w1).alloc #[.pointer p] 30).agree fun b hb => hb.2)
    have hln : (entsT T).length ≤ 100 := by
      rw [hbt.both.2]
      have := putAll_len (xs.map LE.ent) []
      simp only [List.length_map, List.length_nil] at this
      omega
    have HB2 := Lib.hid (Blk.new w1 30 #[.pointer p])
    have HZ2 := Lib.hid (HB0.out.ext hx2)
    have HX2 := Lib.hid (HX0.out.trans hx2)
    have HT2 := Lib.hid (hT2.mono (G := Lt (w1.alloc (.cells #[.pointer p] 30)).heap.size) fun b hb => by rw [World.size_alloc]; have := hb.2; show b < _; omega)
    have HOK := Lib.hid hbt.both.1
    have HP := Lib.hid hp
    have c1 : w1.cell? ⟨w.heap.size, 0, none⟩ = some (.pointer none) := (HB0.out.ext hx1).cell 0
    have lc1 := (HB0.out.ext hx1).lt
    clear hx1 hx2 hT hT2 hbt hp
    go_wp2_with fail
    generalize w1.alloc (.cells #[.pointer p] 30) = W2 at *
    obtain ⟨n, hn⟩ : ∃ n, (entsT T).length = n := ⟨_, rfl⟩
    have hnb : n ≤ 100 := by omega
    have hc1 := fun (W : World) (hW : Ext W2 W) => changes_any (F := fun _ => False) (F' := Lt W2.heap.size) (T := none) (U := T) (w := W) trivial (HT2.out.agree (hW.agree fun _ h => h)) (fun b hb => hb.elim) (fun b hb => Nat.lt_of_lt_of_le hb hW.size) trivial HOK.out (by show 0 ≤ _; omega) (by omega)
    have hc2 := fun (W : World) (hW : Ext W2 W) => changes_any (F := Lt W2.heap.size) (F' := fun _ => False) (T := T) (U := none) (w := W) (HT2.out.agree (hW.agree fun _ h => h)) trivial (fun b hb => Nat.lt_of_lt_of_le hb hW.size) (fun b hb => hb.elim) HOK.out trivial (by omega) (by show 0 ≤ _; omega)
    have hc3 := fun (W : World) => changes_any (F := fun _ => False) (F' := fun _ => False) (T := none) (U := none) (w := W) trivial trivial (fun b hb => hb.elim) (fun b hb => hb.elim) trivial trivial (by show 0 ≤ _; omega) (by show 0 ≤ _; omega)
    have hlen := fun (W : World) (hW : Ext W2 W) => treeLen_any (F := Lt W2.heap.size) (w := W) (fun b hb => Nat.lt_of_lt_of_le hb hW.size) (HT2.out.agree (hW.agree fun _ h => h))
    have hcn := fun (W : World) (hW : Ext W2 W) => countD_any (F := fun _ => False) (F' := Lt W2.heap.size) (T := none) (U := T) (w := W) trivial (HT2.out.agree (hW.agree fun _ h => h)) (fun b hb => hb.elim) (fun b hb => Nat.lt_of_lt_of_le hb hW.size) trivial HOK.out (by show 0 ≤ _; omega) (by omega)
    have hfr := fun (W : World) (hW : Ext W2 W) => treeFresh_any (T := none) (T' := T) (w := W) (F := fun _ => False) (G := Lt W2.heap.size) (p := none) (q := p) rfl HP.out trivial (by show 0 ≤ _; omega) (fun b hb => hb.elim) trivial HOK.out (by omega) (fun b hb => Nat.lt_of_lt_of_le hb hW.size) (HT2.out.agree (hW.agree fun _ h => h))
    rw [treeV, treeV, HP.out, show rootV none = .pointer none from rfl] at hc1 hc2 hcn
    rw [treeV, HP.out] at hlen
    rw [hn] at hlen
    have e0 : entsT none = [] := rfl
    rw [e0] at hc1 hc2 hc3
    rw [nil_chg] at hc1 hc3
    rw [chg_nil] at hc2
    obtain ⟨fr, hfrn⟩ : ∃ f, freshR none T = f := ⟨_, rfl⟩
    rw [hfrn] at hfr
    have HC1 := Lib.hid hc1
    have HC2 := Lib.hid hc2
    have HC3 := Lib.hid hc3
    have HLEN := Lib.hid hlen
    have HCN := Lib.hid hcn
    have HFR := Lib.hid hfr
    have HN := Lib.hid hn
    have HFN := Lib.hid hfrn
    have HSS := Lib.hid (show ∀ W, Ext W2 W → W.cell? ⟨w.heap.size, 0, none⟩ = some (.pointer none) ∧ W.cell? ⟨w1.heap.size, 0, none⟩ = some (.pointer p) from fun W hW => ⟨(HZ2.out.ext hW).cell 0, (HB2.out.ext hW).cell 0⟩)
    clear hc1 hc2 hc3 hlen hcn hfr e0 hfrn hn c1 lc1 HB0 HX0 HBD
    refine (HC1.out W2 (Ext.refl _)).mono ?_
    rintro e w3 ⟨sx, cx, rfl, hcx, hx3, hsx⟩
    have hlx : cx.length = n := by
      have := congrArg List.length hcx
      rw [List.length_map, List.length_map, HN.out] at this
      exact this
    have HSX := Lib.hid (hsx.mono9 (G := Lt w3.heap.size) fun i hi => hi.2)
    have HCX := Lib.hid hcx
    have H3 := Lib.hid hx3
    have q3 := HSS.out _ hx3
    have HLX := Lib.hid hlx
    rw [hlx]
    clear hcx hx3 hsx hlx
    go_wp2_with fail
    refine (HC2.out w3 H3.out).mono ?_
    rintro e w4 ⟨sy, cy, rfl, hcy, hx4, hsy⟩
    have hly : cy.length = n := by
      have := congrArg List.length hcy
      rw [List.length_map, List.length_map, HN.out] at this
      exact this
    have HSY := Lib.hid (hsy.mono9 (G := Lt w4.heap.size) fun i hi => hi.2)
    have HSX4 := Lib.hid (HSX.out.ext9 hx4)
    have HCY := Lib.hid hcy
    have H4 := Lib.hid (H3.out.trans hx4)
    have q4 := HSS.out _ H4.out
    have HLY := Lib.hid hly
    rw [hly]
    clear hcy hx4 hsy hly q3
    go_wp2_with fail
    refine (HLEN.out w4 H4.out).mono ?_
    rintro e w5 ⟨rfl, hx5⟩
    have H5 := Lib.hid (H4.out.trans hx5)
    have H45 := Lib.hid hx5
    have q5 := HSS.out _ H5.out
    clear hx5 q4
    go_wp2_with fail
    refine (HLEN.out w5 H5.out).mono ?_
    rintro e w6 ⟨rfl, hx6⟩
    have H6 := Lib.hid (H5.out.trans hx6)
    have H57 := Lib.hid (H45.out.trans hx6)
    have q6 := HSS.out _ H6.out
    clear hx6 q5
    go_wp2_with fail
    refine (HC3.out w6).mono ?_
    rintro e w7 ⟨sz, cz, rfl, hcz, hx7, hsz7⟩
    have hlz : cz = [] := by simpa using hcz
    subst hlz
    have H7 := Lib.hid (H6.out.trans hx7)
    have q7 := HSS.out _ H7.out
    have h47 := (H57.out.trans hx7)
    clear hx7 q6 hcz hsz7
    have H47 := Lib.hid (show Ext w4 w7 from h47)
    clear h47 q7
    go_wp2_with fail
    go_loopw [7] (fun i wr => ∃ j : Nat, j ≤ n ∧ i = .int .i64 j ∧ Ext w7 wr) (fun i _ => n - (intOf i).toNat)
    case atStart => exact ⟨0, Nat.zero_le _, rfl, Ext.refl _⟩
    case round =>
      obtain ⟨j, hj, rfl, hX⟩ := hrel
      have HX := Lib.hid hX
      by_cases hlt : j < n
      · have g1 : (j : Int) < (n : Int) := by omega
        have hlx := HLX.out
        have hly := HLY.out
        obtain ⟨x, hxx⟩ : ∃ x, cx[j]? = some x := ⟨_, List.getElem?_eq_getElem (by omega)⟩
        obtain ⟨y, hyy⟩ : ∃ y, cy[j]? = some y := ⟨_, List.getElem?_eq_getElem (by omega)⟩
        obtain ⟨en, hen⟩ : ∃ en, (entsT T)[j]? = some en := ⟨_, List.getElem?_eq_getElem (by rw [HN.out]; omega)⟩
        have hxc : x.c = comeC en := by
          have h1 : (cx.map CE.c)[j]? = some x.c := by rw [List.getElem?_map, hxx]; rfl
          rw [HCX.out, List.getElem?_map, hen] at h1
          exact (Option.some.inj h1).symm
        have hyc : y.c = goneC en := by
          have h1 : (cy.map CE.c)[j]? = some y.c := by rw [List.getElem?_map, hyy]; rfl
          rw [HCY.out, List.getElem?_map, hen] at h1
          exact (Option.some.inj h1).symm
        obtain ⟨b, o, hsa, lb, hcc, hcm, -, hcl⟩ := (HSX4.out.ext9 (H47.out.trans hX)).at hxx
        obtain ⟨b', o', hsa', lb', hcc', hcm', -, hcl'⟩ := (HSY.out.ext9 (H47.out.trans hX)).at hyy
        rw [hlx] at hcc
        rw [hly] at hcc'
        obtain ⟨sa, sc⟩ := sx
        obtain ⟨sa', sc'⟩ := sy
        dsimp only at hsa hcc hcm hsa' hcc' hcm'
        subst hsa hsa'
        have lb : b < wr.heap.size := lb
        have lb' : b' < wr.heap.size := lb'
        have x0 : wr.cell? ⟨b, o + j * 15, none⟩ = some (.string en.1) := hcl 0 _ (by rw [show x.cells.toList[0]? = some (.string x.c.k) from rfl, hxc]; rfl)
        have x1 : wr.cell? ⟨b, o + j * 15 + 1, none⟩ = some (.bool false) := hcl 1 _ (by rw [show x.cells.toList[1]? = some (.bool x.c.had) from rfl, hxc]; rfl)
        have x8 : wr.cell? ⟨b, o + j * 15 + 8, none⟩ = some (.bool true) := hcl 8 _ (by rw [show x.cells.toList[8]? = some (.bool x.c.has) from rfl, hxc]; rfl)
        have y0 : wr.cell? ⟨b', o' + j * 15, none⟩ = some (.string en.1) := hcl' 0 _ (by rw [show y.cells.toList[0]? = some (.string y.c.k) from rfl, hyc]; rfl)
        have y1 : wr.cell? ⟨b', o' + j * 15 + 1, none⟩ = some (.bool true) := hcl' 1 _ (by rw [show y.cells.toList[1]? = some (.bool y.c.had) from rfl, hyc]; rfl)
        have y8 : wr.cell? ⟨b', o' + j * 15 + 8, none⟩ = some (.bool false) := hcl' 8 _ (by rw [show y.cells.toList[8]? = some (.bool y.c.has) from rfl, hyc]; rfl)
        have HSR := Lib.hid (show ∀ W, Ext wr W → W.cell? ⟨b, o + j * 15, none⟩ = some (.string en.1) ∧ W.cell? ⟨b, o + j * 15 + 1, none⟩ = some (.bool false) ∧ W.cell? ⟨b, o + j * 15 + 8, none⟩ = some (.bool true) ∧ W.cell? ⟨b', o' + j * 15, none⟩ = some (.string en.1) ∧ W.cell? ⟨b', o' + j * 15 + 1, none⟩ = some (.bool true) ∧ W.cell? ⟨b', o' + j * 15 + 8, none⟩ = some (.bool false) from
          fun W hW => ⟨(hW.cell lb).trans x0, (hW.cell lb).trans x1, (hW.cell lb).trans x8, (hW.cell lb').trans y0, (hW.cell lb').trans y1, (hW.cell lb').trans y8⟩)
        have hkk : (en.1.toList != en.1.toList) = false := by simp
        clear hX hlx hly hxx hyy hen hxc hyc hcl hcl' x0 x1 x8 y0 y1 y8
        go_wp2_with fail
        refine wp_region_held_drew (S := (fun w' => Ext wr w')) (by kernel_rfl) (((Ext.refl wr).drew)) (fun hHeld => ?_)
        refine held_on (i := 0) (d := (some 47)) (v := ?_) rfl rfl (by kernel_rfl) (by kernel_rfl) (by kernel_rfl) (fun _ _ _ h => h) (by rfl) hHeld ?_ ?_
        rotate_left
        focus (intro w hSw; have hSc := HSR.out w hSw; clear hSw; go_simp; first | done | with_reducible rfl)
        try simp only [Act.put, List.setIfInBounds_toArray, List.set_cons_zero, List.set_cons_succ]
        refine held_on (i := 1) (d := (some 48)) (v := ?_) rfl rfl (by kernel_rfl) (by kernel_rfl) (by kernel_rfl) (fun _ _ _ h => h) (by rfl) hHeld ?_ ?_
        rotate_left
        focus (intro w hSw; have hSc := HSR.out w hSw; clear hSw; go_simp; first | done | with_reducible rfl)
        try simp only [Act.put, List.setIfInBounds_toArray, List.set_cons_zero, List.set_cons_succ]
        refine held_on (i := 2) (d := (some 49)) (v := ?_) rfl rfl (by kernel_rfl) (by kernel_rfl) (by kernel_rfl) (fun _ _ _ h => h) (by rfl) hHeld ?_ ?_
        rotate_left
        focus (intro w hSw; have hSc := HSR.out w hSw; clear hSw; go_simp; first | done | with_reducible rfl)
        try simp only [Act.put, List.setIfInBounds_toArray, List.set_cons_zero, List.set_cons_succ]
        refine held_on (i := 3) (d := (some 50)) (v := ?_) rfl rfl (by kernel_rfl) (by kernel_rfl) (by kernel_rfl) (fun _ _ _ h => h) (by rfl) hHeld ?_ ?_
        rotate_left
        focus (intro w hSw; have hSc := HSR.out w hSw; clear hSw; go_simp; first | done | with_reducible rfl)
        try simp only [Act.put, List.setIfInBounds_toArray, List.set_cons_zero, List.set_cons_succ]
        refine held_on (i := 4) (d := (some 51)) (v := ?_) rfl rfl (by kernel_rfl) (by kernel_rfl) (by kernel_rfl) (fun _ _ _ h => h) (by rfl) hHeld ?_ ?_
        rotate_left
        focus (intro w hSw; have hSc := HSR.out w hSw; clear hSw; go_simp; first | done | with_reducible rfl)
        try simp only [Act.put, List.setIfInBounds_toArray, List.set_cons_zero, List.set_cons_succ]
        refine held_on (i := 5) (d := (some 52)) (v := ?_) rfl rfl (by kernel_rfl) (by kernel_rfl) (by kernel_rfl) (fun _ _ _ h => h) (by rfl) hHeld ?_ ?_
        rotate_left
        focus (intro w hSw; have hSc := HSR.out w hSw; clear hSw; go_simp; first | done | with_reducible rfl)
        try simp only [Act.put, List.setIfInBounds_toArray, List.set_cons_zero, List.set_cons_succ]
        refine held_on (i := 6) (d := (some 53)) (v := ?_) rfl rfl (by kernel_rfl) (by kernel_rfl) (by kernel_rfl) (fun _ _ _ h => h) (by rfl) hHeld ?_ ?_
        rotate_left
        focus (intro w hSw; have hSc := HSR.out w hSw; clear hSw; go_simp; first | done | with_reducible rfl)
        try simp only [Act.put, List.setIfInBounds_toArray, List.set_cons_zero, List.set_cons_succ]
        refine held_on (i := 7) (d := (some 54)) (v := ?_) rfl rfl (by kernel_rfl) (by kernel_rfl) (by kernel_rfl) (fun _ _ _ h => h) (by rfl) hHeld ?_ ?_
        rotate_left
        focus (intro w hSw; have hSc := HSR.out w hSw; clear hSw; go_simp; first | done | with_reducible rfl)
        try simp only [Act.put, List.setIfInBounds_toArray, List.set_cons_zero, List.set_cons_succ]
        refine held_on (i := 8) (d := (some 55)) (v := ?_) rfl rfl (by kernel_rfl) (by kernel_rfl) (by kernel_rfl) (fun _ _ _ h => h) (by rfl) hHeld ?_ ?_
        rotate_left
        focus (intro w hSw; have hSc := HSR.out w hSw; clear hSw; go_simp; first | done | with_reducible rfl)
        try simp only [Act.put, List.setIfInBounds_toArray, List.set_cons_zero, List.set_cons_succ]
        refine held_on (i := 9) (d := (some 56)) (v := ?_) rfl rfl (by kernel_rfl) (by kernel_rfl) (by kernel_rfl) (fun _ _ _ h => h) (by rfl) hHeld ?_ ?_
        rotate_left
        focus (intro w hSw; have hSc := HSR.out w hSw; clear hSw; go_simp; first | done | with_reducible rfl)
        try simp only [Act.put, List.setIfInBounds_toArray, List.set_cons_zero, List.set_cons_succ]
        refine held_on (i := 10) (d := (some 57)) (v := ?_) rfl rfl (by kernel_rfl) (by kernel_rfl) (by kernel_rfl) (fun _ _ _ h => h) (by rfl) hHeld ?_ ?_
        rotate_left
        focus (intro w hSw; have hSc := HSR.out w hSw; clear hSw; go_simp; first | done | with_reducible rfl)
        try simp only [Act.put, List.setIfInBounds_toArray, List.set_cons_zero, List.set_cons_succ]
        refine held_on (i := 11) (d := (some 58)) (v := ?_) rfl rfl (by kernel_rfl) (by kernel_rfl) (by kernel_rfl) (fun _ _ _ h => h) (by rfl) hHeld ?_ ?_
        rotate_left
        focus (intro w hSw; have hSc := HSR.out w hSw; clear hSw; go_simp; first | done | with_reducible rfl)
        try simp only [Act.put, List.setIfInBounds_toArray, List.set_cons_zero, List.set_cons_succ]
        refine held_on (i := 12) (d := (some 59)) (v := ?_) rfl rfl (by kernel_rfl) (by kernel_rfl) (by kernel_rfl) (fun _ _ _ h => h) (by rfl) hHeld ?_ ?_
        rotate_left
        focus (intro w hSw; have hSc := HSR.out w hSw; clear hSw; go_simp; first | done | with_reducible rfl)
        try simp only [Act.put, List.setIfInBounds_toArray, List.set_cons_zero, List.set_cons_succ]
        refine held_on (i := 13) (d := (some 60)) (v := ?_) rfl rfl (by kernel_rfl) (by kernel_rfl) (by kernel_rfl) (fun _ _ _ h => h) (by rfl) hHeld ?_ ?_
        rotate_left
        focus (intro w hSw; have hSc := HSR.out w hSw; clear hSw; go_simp; first | done | with_reducible rfl)
        try simp only [Act.put, List.setIfInBounds_toArray, List.set_cons_zero, List.set_cons_succ]
        refine held_on (i := 14) (d := (some 61)) (v := ?_) rfl rfl (by kernel_rfl) (by kernel_rfl) (by kernel_rfl) (fun _ _ _ h => h) (by rfl) hHeld ?_ ?_
        rotate_left
        focus (intro w hSw; have hSc := HSR.out w hSw; clear hSw; go_simp; first | done | with_reducible rfl)
        try simp only [Act.put, List.setIfInBounds_toArray, List.set_cons_zero, List.set_cons_succ]
        refine held_on (i := 15) (d := (some 62)) (v := ?_) rfl rfl (by kernel_rfl) (by kernel_rfl) (by kernel_rfl) (fun _ _ _ h => h) (by rfl) hHeld ?_ ?_
        rotate_left
        focus (intro w hSw; have hSc := HSR.out w hSw; clear hSw; go_simp; first | done | with_reducible rfl)
        try simp only [Act.put, List.setIfInBounds_toArray, List.set_cons_zero, List.set_cons_succ]
        refine held_on (i := 16) (d := (some 63)) (v := ?_) rfl rfl (by kernel_rfl) (by kernel_rfl) (by kernel_rfl) (fun _ _ _ h => h) (by rfl) hHeld ?_ ?_
        rotate_left
        focus (intro w hSw; have hSc := HSR.out w hSw; clear hSw; go_simp; first | done | with_reducible rfl)
        try simp only [Act.put, List.setIfInBounds_toArray, List.set_cons_zero, List.set_cons_succ]
        refine held_on (i := 17) (d := (some 64)) (v := ?_) rfl rfl (by kernel_rfl) (by kernel_rfl) (by kernel_rfl) (fun _ _ _ h => h) (by rfl) hHeld ?_ ?_
        rotate_left
        focus (intro w hSw; have hSc := HSR.out w hSw; clear hSw; go_simp; first | done | with_reducible rfl)
        try simp only [Act.put, List.setIfInBounds_toArray, List.set_cons_zero, List.set_cons_succ]
        refine held_on (i := 18) (d := (some 65)) (v := ?_) rfl rfl (by kernel_rfl) (by kernel_rfl) (by kernel_rfl) (fun _ _ _ h => h) (by rfl) hHeld ?_ ?_
        rotate_left
        focus (intro w hSw; have hSc := HSR.out w hSw; clear hSw; go_simp; first | done | with_reducible rfl)
        try simp only [Act.put, List.setIfInBounds_toArray, List.set_cons_zero, List.set_cons_succ]
        refine held_on (i := 19) (d := (some 66)) (v := ?_) rfl rfl (by kernel_rfl) (by kernel_rfl) (by kernel_rfl) (fun _ _ _ h => h) (by rfl) hHeld ?_ ?_
        rotate_left
        focus (intro w hSw; have hSc := HSR.out w hSw; clear hSw; go_simp; first | done | with_reducible rfl)
        try simp only [Act.put, List.setIfInBounds_toArray, List.set_cons_zero, List.set_cons_succ]
        refine held_on (i := 20) (d := (some 67)) (v := ?_) rfl rfl (by kernel_rfl) (by kernel_rfl) (by kernel_rfl) (fun _ _ _ h => h) (by rfl) hHeld ?_ ?_
        rotate_left
        focus (intro w hSw; have hSc := HSR.out w hSw; clear hSw; go_simp; first | done | with_reducible rfl)
        try simp only [Act.put, List.setIfInBounds_toArray, List.set_cons_zero, List.set_cons_succ]
        refine held_on (i := 21) (d := (some 68)) (v := ?_) rfl rfl (by kernel_rfl) (by kernel_rfl) (by kernel_rfl) (fun _ _ _ h => h) (by rfl) hHeld ?_ ?_
        rotate_left
        focus (intro w hSw; have hSc := HSR.out w hSw; clear hSw; go_simp; first | done | with_reducible rfl)
        try simp only [Act.put, List.setIfInBounds_toArray, List.set_cons_zero, List.set_cons_succ]
        refine held_on (i := 22) (d := (some 69)) (v := ?_) rfl rfl (by kernel_rfl) (by kernel_rfl) (by kernel_rfl) (fun _ _ _ h => h) (by rfl) hHeld ?_ ?_
        rotate_left
        focus (intro w hSw; have hSc := HSR.out w hSw; clear hSw; go_simp; first | done | with_reducible rfl)
        try simp only [Act.put, List.setIfInBounds_toArray, List.set_cons_zero, List.set_cons_succ]
        refine held_on (i := 23) (d := (some 70)) (v := ?_) rfl rfl (by kernel_rfl) (by kernel_rfl) (by kernel_rfl) (fun _ _ _ h => h) (by rfl) hHeld ?_ ?_
        rotate_left
        focus (intro w hSw; have hSc := HSR.out w hSw; clear hSw; go_simp; first | done | with_reducible rfl)
        try simp only [Act.put, List.setIfInBounds_toArray, List.set_cons_zero, List.set_cons_succ]
        refine held_on (i := 24) (d := (some 71)) (v := ?_) rfl rfl (by kernel_rfl) (by kernel_rfl) (by kernel_rfl) (fun _ _ _ h => h) (by rfl) hHeld ?_ ?_
        rotate_left
        focus (intro w hSw; have hSc := HSR.out w hSw; clear hSw; go_simp; first | done | with_reducible rfl)
        try simp only [Act.put, List.setIfInBounds_toArray, List.set_cons_zero, List.set_cons_succ]
        refine held_on (i := 25) (d := (some 72)) (v := ?_) rfl rfl (by kernel_rfl) (by kernel_rfl) (by kernel_rfl) (fun _ _ _ h => h) (by rfl) hHeld ?_ ?_
        rotate_left
        focus (intro w hSw; have hSc := HSR.out w hSw; clear hSw; go_simp; first | done | with_reducible rfl)
        try simp only [Act.put, List.setIfInBounds_toArray, List.set_cons_zero, List.set_cons_succ]
        refine held_on (i := 26) (d := (some 73)) (v := ?_) rfl rfl (by kernel_rfl) (by kernel_rfl) (by kernel_rfl) (fun _ _ _ h => h) (by rfl) hHeld ?_ ?_
        rotate_left
        focus (intro w hSw; have hSc := HSR.out w hSw; clear hSw; go_simp; first | done | with_reducible rfl)
        try simp only [Act.put, List.setIfInBounds_toArray, List.set_cons_zero, List.set_cons_succ]
        refine held_on (i := 27) (d := (some 74)) (v := ?_) rfl rfl (by kernel_rfl) (by kernel_rfl) (by kernel_rfl) (fun _ _ _ h => h) (by rfl) hHeld ?_ ?_
        rotate_left
        focus (intro w hSw; have hSc := HSR.out w hSw; clear hSw; go_simp; first | done | with_reducible rfl)
        try simp only [Act.put, List.setIfInBounds_toArray, List.set_cons_zero, List.set_cons_succ]
        refine held_on (i := 28) (d := (some 75)) (v := ?_) rfl rfl (by kernel_rfl) (by kernel_rfl) (by kernel_rfl) (fun _ _ _ h => h) (by rfl) hHeld ?_ ?_
        rotate_left
        focus (intro w hSw; have hSc := HSR.out w hSw; clear hSw; go_simp; first | done | with_reducible rfl)
        try simp only [Act.put, List.setIfInBounds_toArray, List.set_cons_zero, List.set_cons_succ]
        refine held_on (i := 29) (d := (some 76)) (v := ?_) rfl rfl (by kernel_rfl) (by kernel_rfl) (by kernel_rfl) (fun _ _ _ h => h) (by rfl) hHeld ?_ ?_
        rotate_left
        focus (intro w hSw; have hSc := HSR.out w hSw; clear hSw; go_simp; first | done | with_reducible rfl)
        try simp only [Act.put, List.setIfInBounds_toArray, List.set_cons_zero, List.set_cons_succ]
        refine held_on (i := 30) (d := (some 77)) (v := ?_) rfl rfl (by kernel_rfl) (by kernel_rfl) (by kernel_rfl) (fun _ _ _ h => h) (by rfl) hHeld ?_ ?_
        rotate_left
        focus (intro w hSw; have hSc := HSR.out w hSw; clear hSw; go_simp; first | done | with_reducible rfl)
        try simp only [Act.put, List.setIfInBounds_toArray, List.set_cons_zero, List.set_cons_succ]
        refine held_on (i := 31) (d := (some 78)) (v := ?_) rfl rfl (by kernel_rfl) (by kernel_rfl) (by kernel_rfl) (fun _ _ _ h => h) (by rfl) hHeld ?_ ?_
        rotate_left
        focus (intro w hSw; have hSc := HSR.out w hSw; clear hSw; go_simp; first | done | with_reducible rfl)
        try simp only [Act.put, List.setIfInBounds_toArray, List.set_cons_zero, List.set_cons_succ]
        refine held_on (i := 32) (d := (some 79)) (v := ?_) rfl rfl (by kernel_rfl) (by kernel_rfl) (by kernel_rfl) (fun _ _ _ h => h) (by rfl) hHeld ?_ ?_
        rotate_left
        focus (intro w hSw; have hSc := HSR.out w hSw; clear hSw; go_simp; first | done | with_reducible rfl)
        try simp only [Act.put, List.setIfInBounds_toArray, List.set_cons_zero, List.set_cons_succ]
        refine held_on (i := 33) (d := (some 80)) (v := ?_) rfl rfl (by kernel_rfl) (by kernel_rfl) (by kernel_rfl) (fun _ _ _ h => h) (by rfl) hHeld ?_ ?_
        rotate_left
        focus (intro w hSw; have hSc := HSR.out w hSw; clear hSw; go_simp; first | done | with_reducible rfl)
        try simp only [Act.put, List.setIfInBounds_toArray, List.set_cons_zero, List.set_cons_succ]
        refine held_on (i := 34) (d := (some 81)) (v := ?_) rfl rfl (by kernel_rfl) (by kernel_rfl) (by kernel_rfl) (fun _ _ _ h => h) (by rfl) hHeld ?_ ?_
        rotate_left
        focus (intro w hSw; have hSc := HSR.out w hSw; clear hSw; go_simp; first | done | with_reducible rfl)
        try simp only [Act.put, List.setIfInBounds_toArray, List.set_cons_zero, List.set_cons_succ]
        refine held_on (i := 35) (d := (some 82)) (v := ?_) rfl rfl (by kernel_rfl) (by kernel_rfl) (by kernel_rfl) (fun _ _ _ h => h) (by rfl) hHeld ?_ ?_
        rotate_left
        focus (intro w hSw; have hSc := HSR.out w hSw; clear hSw; go_simp; first | done | with_reducible rfl)
        try simp only [Act.put, List.setIfInBounds_toArray, List.set_cons_zero, List.set_cons_succ]
        refine held_on (i := 36) (d := (some 83)) (v := ?_) rfl rfl (by kernel_rfl) (by kernel_rfl) (by kernel_rfl) (fun _ _ _ h => h) (by rfl) hHeld ?_ ?_
        rotate_left
        focus (intro w hSw; have hSc := HSR.out w hSw; clear hSw; go_simp; first | done | with_reducible rfl)
        try simp only [Act.put, List.setIfInBounds_toArray, List.set_cons_zero, List.set_cons_succ]
        refine held_on (i := 37) (d := (some 84)) (v := ?_) rfl rfl (by kernel_rfl) (by kernel_rfl) (by kernel_rfl) (fun _ _ _ h => h) (by rfl) hHeld ?_ ?_
        rotate_left
        focus (intro w hSw; have hSc := HSR.out w hSw; clear hSw; go_simp; first | done | with_reducible rfl)
        try simp only [Act.put, List.setIfInBounds_toArray, List.set_cons_zero, List.set_cons_succ]
        refine held_on (i := 38) (d := (some 85)) (v := ?_) rfl rfl (by kernel_rfl) (by kernel_rfl) (by kernel_rfl) (fun _ _ _ h => h) (by rfl) hHeld ?_ ?_
        rotate_left
        focus (intro w hSw; have hSc := HSR.out w hSw; clear hSw; go_simp; first | done | with_reducible rfl)
        try simp only [Act.put, List.setIfInBounds_toArray, List.set_cons_zero, List.set_cons_succ]
        refine held_on (i := 39) (d := (some 86)) (v := ?_) rfl rfl (by kernel_rfl) (by kernel_rfl) (by kernel_rfl) (fun _ _ _ h => h) (by rfl) hHeld ?_ ?_
        rotate_left
        focus (intro w hSw; have hSc := HSR.out w hSw; clear hSw; go_simp; first | done | with_reducible rfl)
        try simp only [Act.put, List.setIfInBounds_toArray, List.set_cons_zero, List.set_cons_succ]
        refine held_on (i := 40) (d := (some 87)) (v := ?_) rfl rfl (by kernel_rfl) (by kernel_rfl) (by kernel_rfl) (fun _ _ _ h => h) (by rfl) hHeld ?_ ?_
        rotate_left
        focus (intro w hSw; have hSc := HSR.out w hSw; clear hSw; go_simp; first | done | with_reducible rfl)
        try simp only [Act.put, List.setIfInBounds_toArray, List.set_cons_zero, List.set_cons_succ]
        refine wpAnyH_done (by kernel_rfl) ?_ _
        have HXN := Lib.hid (HX.out.trans hHeld)
        clear hHeld
        go_wp2_with fail
        go_roundw
        case rel => exact ⟨j + 1, hlt, by go_num, HXN.out⟩
        case measure => simp [intOf]; omega
      · have g1 : ¬ (j : Int) < (n : Int) := by omega
        have H8 := Lib.hid (H7.out.trans hX)
        have q8 := HSS.out _ H8.out
        clear hX
        go_wp2_with fail
        refine (HCN.out wr H8.out).mono ?_
        rintro e w9 ⟨op, rfl, hop, hx9⟩
        rw [fresh_none, Nat.zero_add, HFN.out] at hop
        have H9 := Lib.hid (H8.out.trans hx9)
        have q9 := HSS.out _ H9.out
        have hoi : decide ((op : Int) ≤ (fr : Int)) = true := decide_eq_true (by omega)
        have hoi' : (op : Int) ≤ (fr : Int) := by omega
        clear q8 hx9
        go_wp2_with fail
        refine (HFR.out w9 H9.out).mono ?_
        rintro e w10 ⟨rfl, hx10⟩
        have H10 := Lib.hid (H9.out.trans hx10)
        clear hx10 q9
        go_wp2_with fail
        refine (back9_any (w := w10) (s := Sl.none) (cs := []) ⟨⟨0, 0, .nil _ _, rfl, fun j u hj => (by simp [flatC] at hj)⟩, fun x hx => (by cases hx), by simp⟩ (by simp)).mono ?_
        rintro e w11 ⟨sb, cb, rfl, hcb, hx11, -⟩
        have hlb : cb = [] := by
          have := congrArg List.length hcb
          simpa [backC] using this
        subst hlb
        have H11 := Lib.hid (H10.out.trans hx11)
        clear hx11 hcb
        go_wp2_with fail
        refine (known09 _).mono ?_
        rintro e w12 ⟨rfl, hx12⟩
        have HXE := Lib.hid ((HX2.out.trans H11.out).trans hx12)
        clear hx12
        go_wp2_with fail
        go_ret
        exact ⟨rfl, HXE.out⟩
end Go.Proofs.Ytpapoalgocmlaaa
