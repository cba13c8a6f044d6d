/- What the theorem needs of the texts DiffLeads: no condition of its own. -/
import Derived.Test.YtpapoalgocmlaaaGreatPza
import Derived.Test.YtpapoalgocmlaaaGreatPzb
import Derived.Test.YtpapoalgocmlaaaGreatPzc
import Derived.Test.YtpapoalgocmlaaaGreatPzd
import Derived.Test.YtpapoalgocmlaaaGreatPze
import Derived.Test.YtpapoalgocmlaaaGreatPzf
import Derived.Test.YtpapoalgocmlaaaGreatPzg
import Derived.Test.YtpapoalgocmlaaaGreatPzh
import Derived.Test.YtpapoalgocmlaaaGreatPzi
import Derived.Test.YtpapoalgocmlaaaGreatPzl
namespace Go.Proofs.YtpapoalgocmlaaaGreat
open Go.RowKit Go.Shelf
set_option linter.unusedVariables false
set_option linter.unusedSimpArgs false
theorem wp_meetL {P : Program} {c : Code} {Q : Exit → Act → World → Prop} {a : Act} {w : World} (Rw : World → Nat → Prop) (ds : List Nat) (last : Nat → List (Nat × Value))
    (h1 : c.wp P (onlyM fun a' w' => ∃ b, Rw w' b ∧ a'.defers = a.defers ∧ a'.tmps = putT a.tmps ((ds.map fun d => (d, a'.tmps.getD d undef)) ++ last b)) a w)
    (h2 : ∀ (w' : World) (b : Nat) (vs : Nat → Value), Rw w' b → Q .normal { tmps := putT a.tmps ((ds.map fun d => (d, vs d)) ++ last b), defers := a.defers } w') : c.wp P Q a w :=
  wp_mono h1 fun e a' w' h => by
    cases e with
    | normal =>
      obtain ⟨b, hr, hd, ht⟩ := h
      have := h2 w' b (fun d => a'.tmps.getD d undef) hr
      rw [← ht, ← hd] at this
      exact this
    | _ => exact h.elim
theorem apC_lenL : ∀ {l : List Chg} {es es' : List Ent}, apC es l = some es' → es'.length ≤ es.length + l.length
  | [], es, es', h => by
    obtain rfl : es = es' := by simpa [apC] using h
    simp
  | c :: l, es, es', h => by
    rw [apC] at h
    split at h
    · have h1 := apC_lenL h
      have h2 := stepC_len es c
      simp only [List.length_cons]
      omega
    · cases h
structure InBox (W0 : World) (es : List Ent) (w' : World) (b : Nat) : Prop where
  ex : ∃ (Y : RT) (py : Option Addr), OkR Y ∧ IsT w' (Lt w'.heap.size) Y ∧ entsT Y = es ∧ rootV Y = .pointer py ∧ Blk w' b 27 #[.pointer py]
  ext : Ext W0 w'
theorem in_box {W0 w3 w4 : World} {F : Nat → Prop} {es : List Ent} {Y : RT} {py : Option Addr} {b : Nat} {v : Value} (hF : ∀ b, F b → b < W0.heap.size) (hb0 : W0.heap.size ≤ b) (ok : OkR Y) (hT : IsT w4 (Up F w3 w4) Y) (he : entsT Y = es) (hp : rootV Y = .pointer py) (hb : Blk w4 b 27 #[v]) (hx : Ext W0 w4) (hbu : b < w3.heap.size ∨ w4.heap.size ≤ b) : InBox W0 es (w4.setCell ⟨b, 0, none⟩ (.pointer py)) b := by
  refine ⟨⟨Y, py, ok, (hT.agree (Agree.setCell w4 ⟨b, 0, none⟩ _ ?_)).mono fun i hi => ?_, he, hp, hb.set_ 0 _⟩, hx.setCell (p := ⟨b, 0, none⟩) hb0 _⟩
  · have hl := hb.lt
    rintro (h | h)
    · have h : F b := h
      have := hF b h; omega
    · have h : w3.heap.size ≤ b ∧ b < w4.heap.size := h
      omega
  · show i < _
    rw [World.size_setCell]
    have hz := hx.size
    rcases hi with h | h
    · have := hF i h; omega
    · exact h.2
theorem in_box_new {W0 w3 w4 : World} {F : Nat → Prop} {es : List Ent} {Y : RT} {py : Option Addr} (hF : ∀ b, F b → b < W0.heap.size) (ok : OkR Y) (hT : IsT w4 (Up F w3 w4) Y) (he : entsT Y = es) (hp : rootV Y = .pointer py) (hx : Ext W0 w4) : InBox W0 es (w4.alloc (.cells #[.pointer py] 27)) w4.heap.size := by
  have hz := hx.size
  have hlt : ∀ i, Up F w3 w4 i → i < w4.heap.size := fun i hi => by
    rcases hi with h | h
    · have := hF i h; omega
    · exact h.2
  refine ⟨⟨Y, py, ok, (hT.agree (((Ext.refl w4).alloc _ _).agree hlt)).mono fun i hi => ?_, he, hp, Blk.new _ _ _⟩, hx.alloc _ _⟩
  show i < _
  rw [World.size_alloc]
  have := hlt i hi
  omega
set_option maxRecDepth 100000 in
set_option maxHeartbeats 8000000 in
theorem diffleads_w (s0 : Sl) (l0 : List LA) (s1 : Sl) (l1 : List LA) (s2 : Sl) (l2 : List LA) (w : World) (h0 : AS w (Lt w.heap.size) s0 l0) (h1 : AS w (Lt w.heap.size) s1 l1) (h2 : AS w (Lt w.heap.size) s2 l2) :
    Calls Tryz.prog 4 #[.slice s0.a l0.length s0.c, .slice s1.a l1.length s1.c, .slice s2.a l2.length s2.c] w fun e w' => e = .returned (.bool true) ∧ Ext w w' := by
  by_cases hbig : 200 < l0.length ∨ 100 < l1.length ∨ 100 < l2.length
  · have hcase : (200 : Int) < (l0.length : Int) ∨ (¬ (200 : Int) < (l0.length : Int) ∧ (100 : Int) < (l1.length : Int)) ∨ (¬ (200 : Int) < (l0.length : Int) ∧ ¬ (100 : Int) < (l1.length : Int) ∧ (100 : Int) < (l2.length : Int)) := by omega
    clear h0 h1 h2 hbig
    rcases hcase with g | ⟨g, g'⟩ | ⟨g, g', g2⟩
    all_goals
      go_enter Tryz.func4, Tryz.ntmps4
      go_wp2_with fail
      refine (known09 w).mono ?_
      rintro e w9 ⟨rfl, hx9⟩
      go_wp2_with fail
      go_ret
      exact ⟨rfl, hx9⟩
  · have g0 : ¬ (200 : Int) < (l0.length : Int) := by omega
    have g1 : ¬ (100 : Int) < (l1.length : Int) := by omega
    have g2 : ¬ (100 : Int) < (l2.length : Int) := by omega
    have H0 := Lib.hid h0
    have H1 := Lib.hid h1
    have H2 := Lib.hid h2
    clear h0 h1 h2 hbig
    go_enter Tryz.func4, Tryz.ntmps4
    go_wp2_with fail
    generalize hW0 : World.alloc (World.alloc _ _) _ = W0
    obtain ⟨hx0, hz0, hb0, hb1⟩ := two_blocks w _ _ _ _ W0 hW0
    have P0 := Lib.hid (show Pl w.heap.size (fun b => b = w.heap.size + 1) (w.heap.size + 1) none none 0 W0 from ⟨fun b hb => by omega, by omega, PlayI.nil rfl hb1, fun b hb => by omega, rfl, Nat.le_refl _⟩)
    have HX0 := Lib.hid hx0
    have HB0 := Lib.hid hb0
    have hs0 := hx0.size
    clear hW0 hx0 hb0 hb1 hz0
    refine (P0.out.run (H0.out.agree (HX0.out.agree fun _ h => h)) (fun b (hb : b < w.heap.size) => ⟨by omega, by omega⟩) (by omega)).mono ?_
    rintro e w1 ⟨T1, p1, M1, rfl, hP1, hx1, -⟩
    have P1 := Lib.hid hP1
    have HX1 := Lib.hid (HX0.out.trans hx1)
    have HX01 := Lib.hid hx1
    have hs1 := hx1.size
    clear hP1 hx1
    go_wp2_with fail
    have HXA := Lib.hid ((Ext.refl w1).alloc #[.pointer p1] 27)
    have HBT := Lib.hid (Blk.new w1 27 #[.pointer p1])
    refine ((P1.out.ext HXA.out).run (H1.out.agree ((HX1.out.trans HXA.out).agree fun _ h => h)) (fun b (hb : b < w.heap.size) => ⟨by have := HXA.out.size; omega, fun hh => by have := P1.out.lo b hh; omega⟩) (by omega)).mono ?_
    rintro e w2 ⟨T2, p2, M2, rfl, hP2, hx2, -⟩
    have P2 := Lib.hid hP2
    have P12 := Lib.hid (P1.out.ext (HXA.out.trans hx2))
    have HBT2 := Lib.hid (HBT.out.ext hx2)
    have HX2 := Lib.hid ((HX1.out.trans HXA.out).trans hx2)
    have HX02 := Lib.hid ((HX01.out.trans HXA.out).trans hx2)
    have hb2 := HBT.out.ext hx2
    have c2 : w2.cell? ⟨w1.heap.size, 0, none⟩ = some (.pointer p1) := hb2.cell 0
    have l2' := hb2.lt
    have hs2 := HX2.out.size
    clear hP2 hx2 hb2
    go_wp2_with fail
    have HXB := Lib.hid ((Ext.refl w2).alloc #[.pointer p2] 27)
    have HBU := Lib.hid (Blk.new w2 27 #[.pointer p2])
    refine ((P12.out.ext HXB.out).run (H2.out.agree ((HX2.out.trans HXB.out).agree fun _ h => h)) (fun b (hb : b < w.heap.size) => ⟨by have := HXB.out.size; omega, fun hh => by have := P12.out.lo b hh; omega⟩) (by omega)).mono ?_
    rintro e w3 ⟨T9, p9, M9, rfl, hP3, hx3, -⟩
    have hx4 := hx3.alloc #[.pointer p9] 27
    have hx24 := HXB.out.trans hx4
    have P9 := Lib.hid (hP3.ext ((Ext.refl w3).alloc #[.pointer p9] 27))
    have P19 := Lib.hid (P12.out.ext hx24)
    have P29 := Lib.hid (P2.out.ext hx24)
    have HB1 := Lib.hid (HBT2.out.ext hx24)
    have HB2 := Lib.hid (HBU.out.ext hx4)
    have HB9 := Lib.hid (Blk.new w3 27 #[.pointer p9])
    have HX9 := Lib.hid (HX2.out.trans hx24)
    obtain ⟨n9, hn9⟩ : ∃ n, 0 + l0.length + l2.length = n := ⟨_, rfl⟩
    rw [hn9] at P9
    have hn9' : n9 ≤ 300 := by omega
    clear hP3 hx3 hx4 hx24 hn9 c2 l2'
    have q9 : (w3.alloc (.cells #[.pointer p9] 27)).cell? ⟨w2.heap.size, 0, none⟩ = some (.pointer p2) ∧ (w3.alloc (.cells #[.pointer p9] 27)).cell? ⟨w3.heap.size, 0, none⟩ = some (.pointer p9) := ⟨HB2.out.cell 0, HB9.out.cell 0⟩
    have hl9 := HB9.out.lt
    have hl2 := HB2.out.lt
    go_wp2_with fail
    generalize w3.alloc (.cells #[.pointer p9] 27) = W9 at *
    obtain ⟨xs, hax, hsx, hxv, ys, hay, hsy, hyu⟩ := chg_leads P29.out.play.ok.sorted P9.out.play.ok.sorted
    obtain ⟨al, hal⟩ : ∃ al, chg (entsT T2) (entsT T9) = al := ⟨_, rfl⟩
    have hall : al.length ≤ 2000 := by
      rw [← hal]
      have h1 := chg_len (entsT T2) (entsT T9)
      have h2 := P29.out.few
      have h3 := P9.out.few
      omega
    rw [hal] at hax hay
    have HCH := Lib.hid (fun (W : World) (hW : Ext W9 W) => (P29.out.ext hW).changes (P9.out.ext hW) (by omega) (by omega))
    rw [hal] at HCH
    have HL := Lib.hid (show apC (entsT T2) al = some xs ∧ Sorted xs ∧ sameE xs (entsT T9) = true ∧ apC xs (backC al) = some ys ∧ sameE ys (entsT T2) = true from ⟨hax, hsx, hxv, hay, hyu⟩)
    have HSS := Lib.hid (show ∀ W, Ext W9 W → W.cell? ⟨w2.heap.size, 0, none⟩ = some (.pointer p2) ∧ W.cell? ⟨w3.heap.size, 0, none⟩ = some (.pointer p9) from
      fun W hW => ⟨(HB2.out.ext hW).cell 0, (HB9.out.ext hW).cell 0⟩)
    have htu := P29.out.few
    clear hal hax hsx hxv hay hsy hyu
    refine (HCH.out _ (Ext.refl _)).mono ?_
    rintro e wa ⟨sa, ca, rfl, hca, hxa, hsa⟩
    have hcl : ca.length ≤ 2000 := by rw [← List.length_map (f := CE.c), hca]; exact hall
    have HSA := Lib.hid (hsa.mono9 (G := Lt wa.heap.size) fun i hi => hi.2)
    have hap := apply_any (cs := ca) (s := sa) (F := NH _ W9) (fun b hb => Nat.lt_of_lt_of_le hb.1 hxa.size) (P29.out.play.tree.agree (hxa.agree fun b hb => hb.1)) P29.out.play.ok HSA.out (by omega)
    rw [hca, HL.out.1, treeV, P29.out.root] at hap
    unfold ApplyPost at hap
    rw [show (if (some xs).isSome = true then (0 : Int) else 13) = 0 from rfl] at hap
    have HAP := Lib.hid hap
    have HCA := Lib.hid hca
    have HXA1 := Lib.hid hxa
    have qa := HSS.out _ hxa
    have hsza := hxa.size
    clear hca hxa hsa hap q9
    go_wp2_with fail
    refine HAP.out.mono ?_
    rintro e wb ⟨X, rfl, okX, hTX, heX, hxb⟩
    obtain ⟨px, hpx⟩ := rootV_ptr X
    rw [treeV, hpx]
    have hxc := (Ext.refl wb).alloc #[.pointer px] 27
    have HBX := Lib.hid (Blk.new wb 27 #[.pointer px])
    have hTX1 : IsT wb (fun b => b < wb.heap.size) X := hTX.mono fun b hb => hb.elim (fun h => Nat.lt_of_lt_of_le (show b < wa.heap.size from Nat.lt_of_lt_of_le h.1 hsza) hxb.size) (fun h => h.2)
    have HTX := Lib.hid ((hTX1.agree (hxc.agree fun b hb => hb)))
    have HOX := Lib.hid okX
    have HEX := Lib.hid (show entsT X = xs from heX)
    have HPX := Lib.hid hpx
    have H10 := Lib.hid (HXA1.out.trans (hxb.trans hxc))
    have HSA10 := Lib.hid (HSA.out.ext9 (hxb.trans hxc))
    have hszb := hxb.size
    have hzc : (wb.alloc (.cells #[.pointer px] 27)).heap.size = wb.heap.size + 1 := by simp
    have hxl : xs.length ≤ 10000 := by
      have := apC_lenL HL.out.1
      omega
    clear hxb hxc hTX hTX1 okX heX hpx qa
    go_wp2_with fail
    generalize wb.alloc (.cells #[.pointer px] 27) = W10 at *
    have HSS1 := Lib.hid (show ∀ W, Ext W10 W → W.cell? ⟨w2.heap.size, 0, none⟩ = some (.pointer p2) ∧ W.cell? ⟨w3.heap.size, 0, none⟩ = some (.pointer p9) ∧ W.cell? ⟨wb.heap.size, 0, none⟩ = some (.pointer px) from
      fun W hW => ⟨(HSS.out _ (H10.out.trans hW)).1, (HSS.out _ (H10.out.trans hW)).2, (HBX.out.ext hW).cell 0⟩)
    have HBK := Lib.hid (fun (W : World) (hW : Ext W10 W) => back9_any (HSA10.out.ext9 hW) (by omega))
    have HAX := Lib.hid (show ∀ (W : World) (sb : Sl) (cb : List CE), Ext W10 W → cb.map CE.c = backC al → CS W (Lt W.heap.size) sb cb → Calls Tryz.prog 10 #[.agg #[.pointer px], .slice sb.a cb.length sb.c] W (ApplyPost (fun b => b < wb.heap.size) (some ys) W) from fun W sb cb hW hcb hsb => by
      have hl : cb.length ≤ 10000 := by
        have h1 := congrArg List.length hcb
        rw [List.length_map, backC, List.length_reverse, List.length_map] at h1
        omega
      have := apply_any (cs := cb) (s := sb) (F := fun b => b < wb.heap.size) (fun b hb => by have := hW.size; omega) (HTX.out.agree (hW.agree fun b (hb : b < wb.heap.size) => by omega)) HOX.out hsb (by rw [HEX.out]; omega)
      rwa [HEX.out, hcb, HL.out.2.2.2.1, treeV, HPX.out] at this)
    have HZC := Lib.hid hzc
    clear hzc
    refine wp_meetL (InBox W10 ys) [65, 66, 67, 68, 64, 69, 70] (fun b => [(17, .pointer (some ⟨b, 0, none⟩)), (18, .int .i64 0)]) ?_ ?_
    · skip
      refine wp_region_held_drew (S := (fun w' => Ext W10 w')) (by kernel_rfl) (((Ext.refl W10).drew)) (fun hHeld => ?_)
      refine held_on (i := 0) (d := (some 65)) (v := ?_) rfl rfl (by kernel_rfl) (by kernel_rfl) (by kernel_rfl) (fun _ _ _ h => h) (by rfl) hHeld ?_ ?_
      rotate_left
      focus (intro w hSw; have hSc := HSS1.out w hSw; clear hSw; go_simp; first | done | with_reducible rfl)
      try simp only [Act.put, List.setIfInBounds_toArray, List.set_cons_zero, List.set_cons_succ]
      refine held_on (i := 1) (d := (some 66)) (v := ?_) rfl rfl (by kernel_rfl) (by kernel_rfl) (by kernel_rfl) (fun _ _ _ h => h) (by rfl) hHeld ?_ ?_
      rotate_left
      focus (intro w hSw; have hSc := HSS1.out w hSw; clear hSw; go_simp; first | done | with_reducible rfl)
      try simp only [Act.put, List.setIfInBounds_toArray, List.set_cons_zero, List.set_cons_succ]
      refine held_two (i := 2) (j := 7) (by kernel_rfl) rfl rfl (by rfl) (by rfl) (fun K hK => ?_) (fun K hK => ?_)
      · go_simp
        (refine (HBK.out _ hHeld).mono ?_; rintro e wc ⟨sb, cb, rfl, hcb, hxc, hsb⟩; rw [HCA.out] at hcb; have HXC := Lib.hid (hHeld.trans hxc); have HCB := Lib.hid hcb; have HSB := Lib.hid (hsb.mono9 (G := Lt wc.heap.size) fun i hi => hi.2); (try (have HBC := Lib.hid (HBN.out.ext hxc))); clear hcb hxc hsb)
        refine hK.out _ _ (HXC.out) (fun hHeld => ?_)
        clear hK K
        try simp only [Act.put, List.setIfInBounds_toArray, List.set_cons_zero, List.set_cons_succ]
        refine held_two (i := 3) (j := 7) (by kernel_rfl) rfl rfl (by rfl) (by rfl) (fun K hK => ?_) (fun K hK => ?_)
        · go_simp
          (refine (HAX.out _ sb cb hHeld HCB.out (by first|exact HSB.out|exact HSB.out.ext9 ((Ext.refl _).alloc _ _))).mono ?_; rintro e wd ⟨Y, rfl, okY, hTY, heY, hxd⟩; obtain ⟨py, hpy⟩ := rootV_ptr Y; rw [treeV, hpy]; have HXD := Lib.hid (hHeld.trans hxd); (first|have hb6 := HBC.out.ext hxd|have hb6 := HBN.out.ext hxd|skip); (try (have c6 : wd.cell? ⟨_, 0, none⟩ = some (.pointer none) := hb6.cell 0; have f6 := hb6.frozen 0; have l6 := hb6.lt)); have OKY := Lib.hid okY; have HTY := Lib.hid hTY; have HEY := Lib.hid (show entsT Y = ys from heY); have HPY := Lib.hid hpy; clear okY hTY heY hpy hxd)
          refine hK.out _ _ (HXD.out) (fun hHeld => ?_)
          clear hK K
          try simp only [Act.put, List.setIfInBounds_toArray, List.set_cons_zero, List.set_cons_succ]
          refine held_on (i := 4) (d := (some 64)) (v := ?_) rfl rfl (by kernel_rfl) (by kernel_rfl) (by kernel_rfl) (fun _ _ _ h => h) (by rfl) hHeld ?_ ?_
          rotate_left
          focus (intro w hSw; have hSc := HSS1.out w hSw; clear hSw; go_simp; first | done | with_reducible rfl)
          try simp only [Act.put, List.setIfInBounds_toArray, List.set_cons_zero, List.set_cons_succ]
          refine held_on (i := 5) (d := (some 69)) (v := ?_) rfl rfl (by kernel_rfl) (by kernel_rfl) (by kernel_rfl) (fun _ _ _ h => h) (by rfl) hHeld ?_ ?_
          rotate_left
          focus (intro w hSw; have hSc := HSS1.out w hSw; clear hSw; go_simp; first | done | with_reducible rfl)
          try simp only [Act.put, List.setIfInBounds_toArray, List.set_cons_zero, List.set_cons_succ]
          refine held_on (i := 6) (d := (some 70)) (v := ?_) rfl rfl (by kernel_rfl) (by kernel_rfl) (by kernel_rfl) (fun _ _ _ h => h) (by rfl) hHeld ?_ ?_
          rotate_left
          focus (intro w hSw; have hSc := HSS1.out w hSw; clear hSw; go_simp; first | done | with_reducible rfl)
          try simp only [Act.put, List.setIfInBounds_toArray, List.set_cons_zero, List.set_cons_succ]
          refine held_call (i := 7) (by kernel_rfl) rfl (by rfl) (fun K hK => ?_)
          go_simp
          (first|have HBN := Lib.hid (Blk.new wd 27 #[.pointer none])|have HBN := Lib.hid (Blk.new wc 27 #[.pointer none])|have HBN := Lib.hid (show Blk _ W10.heap.size _ _ from Blk.new W10.drew 27 #[.pointer none]))
          refine hK.out _ _ (hHeld.alloc _ _) (fun hHeld => ?_)
          clear hK K
          try simp only [Act.put, List.setIfInBounds_toArray, List.set_cons_zero, List.set_cons_succ]
          refine held_call (i := 8) (by kernel_rfl) rfl (by rfl) (fun K hK => ?_)
          go_simp
          skip
          refine hK.out _ _ ((by first|exact HXD.out.alloc _ _|exact hHeld.setCell (p := ⟨wc.heap.size, 0, none⟩) HXC.out.size _|exact hHeld.setCell (p := ⟨W10.heap.size, 0, none⟩) (Nat.le_refl _) _)) (fun hHeld => ?_)
          clear hK K
          try simp only [Act.put, List.setIfInBounds_toArray, List.set_cons_zero, List.set_cons_succ]
          refine held_on (i := 9) (d := (some 18)) (v := ?_) rfl rfl (by kernel_rfl) (by kernel_rfl) (by kernel_rfl) (fun _ _ _ h => h) (by rfl) hHeld ?_ ?_
          rotate_left
          focus (intro w hSw; have hSc := HSS1.out w hSw; clear hSw; go_simp; first | done | with_reducible rfl)
          try simp only [Act.put, List.setIfInBounds_toArray, List.set_cons_zero, List.set_cons_succ]
          refine wpAnyH_done (by kernel_rfl) ?_ _
          simp only [putT, List.map_cons, List.map_nil, List.cons_append, List.nil_append, List.setIfInBounds_toArray, List.set_cons_zero, List.set_cons_succ]
          have hFb : ∀ b, b < wb.heap.size → b < W10.heap.size := fun b hb => by have := HZC.out; omega
          first
            | refine onlyM_mk ⟨wd.heap.size, in_box_new hFb OKY.out HTY.out HEY.out HPY.out HXD.out, by kernel_rfl, ?_⟩
            | refine onlyM_mk ⟨wc.heap.size, in_box hFb HXC.out.size OKY.out HTY.out HEY.out HPY.out hb6 HXD.out (.inl (by simp)), by kernel_rfl, ?_⟩
            | refine onlyM_mk ⟨W10.heap.size, in_box hFb (Nat.le_refl _) OKY.out HTY.out HEY.out HPY.out hb6 HXD.out (.inl HBC.out.lt), by kernel_rfl, ?_⟩
          simp only [putT, List.map_cons, List.map_nil, List.cons_append, List.nil_append, List.setIfInBounds_toArray, List.set_cons_zero, List.set_cons_succ]
          kernel_rfl
        · go_simp
          (first|have HBN := Lib.hid (Blk.new wd 27 #[.pointer none])|have HBN := Lib.hid (Blk.new wc 27 #[.pointer none])|have HBN := Lib.hid (show Blk _ W10.heap.size _ _ from Blk.new W10.drew 27 #[.pointer none]))
          refine hK.out _ _ (hHeld.alloc _ _) (fun hHeld => ?_)
          clear hK K
          try simp only [Act.put, List.setIfInBounds_toArray, List.set_cons_zero, List.set_cons_succ]
          refine held_call (i := 3) (by kernel_rfl) rfl (by rfl) (fun K hK => ?_)
          go_simp
          (refine (HAX.out _ sb cb hHeld HCB.out (by first|exact HSB.out|exact HSB.out.ext9 ((Ext.refl _).alloc _ _))).mono ?_; rintro e wd ⟨Y, rfl, okY, hTY, heY, hxd⟩; obtain ⟨py, hpy⟩ := rootV_ptr Y; rw [treeV, hpy]; have HXD := Lib.hid (hHeld.trans hxd); (first|have hb6 := HBC.out.ext hxd|have hb6 := HBN.out.ext hxd|skip); (try (have c6 : wd.cell? ⟨_, 0, none⟩ = some (.pointer none) := hb6.cell 0; have f6 := hb6.frozen 0; have l6 := hb6.lt)); have OKY := Lib.hid okY; have HTY := Lib.hid hTY; have HEY := Lib.hid (show entsT Y = ys from heY); have HPY := Lib.hid hpy; clear okY hTY heY hpy hxd)
          refine hK.out _ _ (HXD.out) (fun hHeld => ?_)
          clear hK K
          try simp only [Act.put, List.setIfInBounds_toArray, List.set_cons_zero, List.set_cons_succ]
          refine held_on (i := 4) (d := (some 64)) (v := ?_) rfl rfl (by kernel_rfl) (by kernel_rfl) (by kernel_rfl) (fun _ _ _ h => h) (by rfl) hHeld ?_ ?_
          rotate_left
          focus (intro w hSw; have hSc := HSS1.out w hSw; clear hSw; go_simp; first | done | with_reducible rfl)
          try simp only [Act.put, List.setIfInBounds_toArray, List.set_cons_zero, List.set_cons_succ]
          refine held_on (i := 5) (d := (some 69)) (v := ?_) rfl rfl (by kernel_rfl) (by kernel_rfl) (by kernel_rfl) (fun _ _ _ h => h) (by rfl) hHeld ?_ ?_
          rotate_left
          focus (intro w hSw; have hSc := HSS1.out w hSw; clear hSw; go_simp; first | done | with_reducible rfl)
          try simp only [Act.put, List.setIfInBounds_toArray, List.set_cons_zero, List.set_cons_succ]
          refine held_on (i := 6) (d := (some 70)) (v := ?_) rfl rfl (by kernel_rfl) (by kernel_rfl) (by kernel_rfl) (fun _ _ _ h => h) (by rfl) hHeld ?_ ?_
          rotate_left
          focus (intro w hSw; have hSc := HSS1.out w hSw; clear hSw; go_simp; first | done | with_reducible rfl)
          try simp only [Act.put, List.setIfInBounds_toArray, List.set_cons_zero, List.set_cons_succ]
          refine held_call (i := 8) (by kernel_rfl) rfl (by rfl) (fun K hK => ?_)
          go_simp
          skip
          refine hK.out _ _ ((by first|exact HXD.out.alloc _ _|exact hHeld.setCell (p := ⟨wc.heap.size, 0, none⟩) HXC.out.size _|exact hHeld.setCell (p := ⟨W10.heap.size, 0, none⟩) (Nat.le_refl _) _)) (fun hHeld => ?_)
          clear hK K
          try simp only [Act.put, List.setIfInBounds_toArray, List.set_cons_zero, List.set_cons_succ]
          refine held_on (i := 9) (d := (some 18)) (v := ?_) rfl rfl (by kernel_rfl) (by kernel_rfl) (by kernel_rfl) (fun _ _ _ h => h) (by rfl) hHeld ?_ ?_
          rotate_left
          focus (intro w hSw; have hSc := HSS1.out w hSw; clear hSw; go_simp; first | done | with_reducible rfl)
          try simp only [Act.put, List.setIfInBounds_toArray, List.set_cons_zero, List.set_cons_succ]
          refine wpAnyH_done (by kernel_rfl) ?_ _
          simp only [putT, List.map_cons, List.map_nil, List.cons_append, List.nil_append, List.setIfInBounds_toArray, List.set_cons_zero, List.set_cons_succ]
          have hFb : ∀ b, b < wb.heap.size → b < W10.heap.size := fun b hb => by have := HZC.out; omega
          first
            | refine onlyM_mk ⟨wd.heap.size, in_box_new hFb OKY.out HTY.out HEY.out HPY.out HXD.out, by kernel_rfl, ?_⟩
            | refine onlyM_mk ⟨wc.heap.size, in_box hFb HXC.out.size OKY.out HTY.out HEY.out HPY.out hb6 HXD.out (.inl (by simp)), by kernel_rfl, ?_⟩
            | refine onlyM_mk ⟨W10.heap.size, in_box hFb (Nat.le_refl _) OKY.out HTY.out HEY.out HPY.out hb6 HXD.out (.inl HBC.out.lt), by kernel_rfl, ?_⟩
          simp only [putT, List.map_cons, List.map_nil, List.cons_append, List.nil_append, List.setIfInBounds_toArray, List.set_cons_zero, List.set_cons_succ]
          kernel_rfl
      · go_simp
        (first|have HBN := Lib.hid (Blk.new wd 27 #[.pointer none])|have HBN := Lib.hid (Blk.new wc 27 #[.pointer none])|have HBN := Lib.hid (show Blk _ W10.heap.size _ _ from Blk.new W10.drew 27 #[.pointer none]))
        refine hK.out _ _ (hHeld.alloc _ _) (fun hHeld => ?_)
        clear hK K
        try simp only [Act.put, List.setIfInBounds_toArray, List.set_cons_zero, List.set_cons_succ]
        refine held_call (i := 2) (by kernel_rfl) rfl (by rfl) (fun K hK => ?_)
        go_simp
        (refine (HBK.out _ hHeld).mono ?_; rintro e wc ⟨sb, cb, rfl, hcb, hxc, hsb⟩; rw [HCA.out] at hcb; have HXC := Lib.hid (hHeld.trans hxc); have HCB := Lib.hid hcb; have HSB := Lib.hid (hsb.mono9 (G := Lt wc.heap.size) fun i hi => hi.2); (try (have HBC := Lib.hid (HBN.out.ext hxc))); clear hcb hxc hsb)
        refine hK.out _ _ (HXC.out) (fun hHeld => ?_)
        clear hK K
        try simp only [Act.put, List.setIfInBounds_toArray, List.set_cons_zero, List.set_cons_succ]
        refine held_call (i := 3) (by kernel_rfl) rfl (by rfl) (fun K hK => ?_)
        go_simp
        (refine (HAX.out _ sb cb hHeld HCB.out (by first|exact HSB.out|exact HSB.out.ext9 ((Ext.refl _).alloc _ _))).mono ?_; rintro e wd ⟨Y, rfl, okY, hTY, heY, hxd⟩; obtain ⟨py, hpy⟩ := rootV_ptr Y; rw [treeV, hpy]; have HXD := Lib.hid (hHeld.trans hxd); (first|have hb6 := HBC.out.ext hxd|have hb6 := HBN.out.ext hxd|skip); (try (have c6 : wd.cell? ⟨_, 0, none⟩ = some (.pointer none) := hb6.cell 0; have f6 := hb6.frozen 0; have l6 := hb6.lt)); have OKY := Lib.hid okY; have HTY := Lib.hid hTY; have HEY := Lib.hid (show entsT Y = ys from heY); have HPY := Lib.hid hpy; clear okY hTY heY hpy hxd)
        refine hK.out _ _ (HXD.out) (fun hHeld => ?_)
        clear hK K
        try simp only [Act.put, List.setIfInBounds_toArray, List.set_cons_zero, List.set_cons_succ]
        refine held_on (i := 4) (d := (some 64)) (v := ?_) rfl rfl (by kernel_rfl) (by kernel_rfl) (by kernel_rfl) (fun _ _ _ h => h) (by rfl) hHeld ?_ ?_
        rotate_left
        focus (intro w hSw; have hSc := HSS1.out w hSw; clear hSw; go_simp; first | done | with_reducible rfl)
        try simp only [Act.put, List.setIfInBounds_toArray, List.set_cons_zero, List.set_cons_succ]
        refine held_on (i := 5) (d := (some 69)) (v := ?_) rfl rfl (by kernel_rfl) (by kernel_rfl) (by kernel_rfl) (fun _ _ _ h => h) (by rfl) hHeld ?_ ?_
        rotate_left
        focus (intro w hSw; have hSc := HSS1.out w hSw; clear hSw; go_simp; first | done | with_reducible rfl)
        try simp only [Act.put, List.setIfInBounds_toArray, List.set_cons_zero, List.set_cons_succ]
        refine held_on (i := 6) (d := (some 70)) (v := ?_) rfl rfl (by kernel_rfl) (by kernel_rfl) (by kernel_rfl) (fun _ _ _ h => h) (by rfl) hHeld ?_ ?_
        rotate_left
        focus (intro w hSw; have hSc := HSS1.out w hSw; clear hSw; go_simp; first | done | with_reducible rfl)
        try simp only [Act.put, List.setIfInBounds_toArray, List.set_cons_zero, List.set_cons_succ]
        refine held_call (i := 8) (by kernel_rfl) rfl (by rfl) (fun K hK => ?_)
        go_simp
        skip
        refine hK.out _ _ ((by first|exact HXD.out.alloc _ _|exact hHeld.setCell (p := ⟨wc.heap.size, 0, none⟩) HXC.out.size _|exact hHeld.setCell (p := ⟨W10.heap.size, 0, none⟩) (Nat.le_refl _) _)) (fun hHeld => ?_)
        clear hK K
        try simp only [Act.put, List.setIfInBounds_toArray, List.set_cons_zero, List.set_cons_succ]
        refine held_on (i := 9) (d := (some 18)) (v := ?_) rfl rfl (by kernel_rfl) (by kernel_rfl) (by kernel_rfl) (fun _ _ _ h => h) (by rfl) hHeld ?_ ?_
        rotate_left
        focus (intro w hSw; have hSc := HSS1.out w hSw; clear hSw; go_simp; first | done | with_reducible rfl)
        try simp only [Act.put, List.setIfInBounds_toArray, List.set_cons_zero, List.set_cons_succ]
        refine wpAnyH_done (by kernel_rfl) ?_ _
        simp only [putT, List.map_cons, List.map_nil, List.cons_append, List.nil_append, List.setIfInBounds_toArray, List.set_cons_zero, List.set_cons_succ]
        have hFb : ∀ b, b < wb.heap.size → b < W10.heap.size := fun b hb => by have := HZC.out; omega
        first
          | refine onlyM_mk ⟨wd.heap.size, in_box_new hFb OKY.out HTY.out HEY.out HPY.out HXD.out, by kernel_rfl, ?_⟩
          | refine onlyM_mk ⟨wc.heap.size, in_box hFb HXC.out.size OKY.out HTY.out HEY.out HPY.out hb6 HXD.out (.inl (by simp)), by kernel_rfl, ?_⟩
          | refine onlyM_mk ⟨W10.heap.size, in_box hFb (Nat.le_refl _) OKY.out HTY.out HEY.out HPY.out hb6 HXD.out (.inl HBC.out.lt), by kernel_rfl, ?_⟩
        simp only [putT, List.map_cons, List.map_nil, List.cons_append, List.nil_append, List.setIfInBounds_toArray, List.set_cons_zero, List.set_cons_succ]
        kernel_rfl
    · intro W11 b vs hin
      simp only [putT, List.map_cons, List.map_nil, List.cons_append, List.nil_append, List.setIfInBounds_toArray, List.set_cons_zero, List.set_cons_succ]
      obtain ⟨⟨Y, py, okY, hTY, heY, hpy, hby⟩, hx11⟩ := hin
      have hs11 := hx11.size
      have hzc := HZC.out
      have hP9 := fun (W : World) (hW : Ext W11 W) => P9.out.ext (H10.out.trans (hx11.trans hW))
      have hP2 := fun (W : World) (hW : Ext W11 W) => P29.out.ext (H10.out.trans (hx11.trans hW))
      have hsx := fun (W : World) (hW : Ext W11 W) => treeSame_any (F := fun b => b < wb.heap.size) (F' := NH _ W) (fun b hb => by have := hW.size; omega) (fun b hb => hb.1) (HTX.out.agree ((hx11.trans hW).agree fun b (hb : b < wb.heap.size) => by omega)) (hP9 W hW).play.tree HOX.out (hP9 W hW).play.ok (by rw [HEX.out]; omega) (by have := (hP9 W hW).few; omega)
      have hsy := fun (W : World) (hW : Ext W11 W) => treeSame_any (F := Lt W11.heap.size) (F' := NH _ W) (fun b hb => Nat.lt_of_lt_of_le hb hW.size) (fun b hb => hb.1) (hTY.agree (hW.agree fun _ h => h)) (hP2 W hW).play.tree okY (hP2 W hW).play.ok (by rw [heY]; have := apC_lenL HL.out.2.2.2.1; rw [backC, List.length_reverse, List.length_map] at this; omega) (by have := (hP2 W hW).few; omega)
      rw [HEX.out, HL.out.2.2.1, treeV, treeV, HPX.out, P9.out.root] at hsx
      rw [heY, HL.out.2.2.2.2, treeV, treeV, hpy, P29.out.root] at hsy
      have hbk := fun (W : World) (hW : Ext W11 W) => back9_any (HSA10.out.ext9 (hx11.trans hW)) (by omega)
      have HSX := Lib.hid hsx
      have HSY := Lib.hid hsy
      have HBK2 := Lib.hid hbk
      have HSS2 := Lib.hid (show ∀ W, Ext W11 W → (W.cell? ⟨w2.heap.size, 0, none⟩ = some (.pointer p2) ∧ W.cell? ⟨w3.heap.size, 0, none⟩ = some (.pointer p9) ∧ W.cell? ⟨wb.heap.size, 0, none⟩ = some (.pointer px)) ∧ W.cell? ⟨b, 0, none⟩ = some (.pointer py) from
        fun W hW => ⟨HSS1.out _ (hx11.trans hW), (hby.ext hW).cell 0⟩)
      have q11 := HSS2.out _ (Ext.refl _)
      have HX11 := Lib.hid (H10.out.trans hx11)
      have HE11 := Lib.hid hx11
      clear okY hTY heY hpy hby hx11 hP9 hP2 hsx hsy hbk hzc
      go_wp2_with fail
      refine (HSX.out _ (Ext.refl _)).mono ?_
      rintro e v1 ⟨rfl, hv1⟩
      have HV1 := Lib.hid hv1
      have q12 := HSS2.out _ hv1
      clear hv1 q11
      go_wp2_with fail
      refine (HSY.out _ HV1.out).mono ?_
      rintro e v2 ⟨rfl, hv2⟩
      have HV2 := Lib.hid (HV1.out.trans hv2)
      clear hv2 q12
      go_wp2_with fail
      refine (HBK2.out _ HV2.out).mono ?_
      rintro e v3 ⟨s3, c3, rfl, hc3, hv3, hs3⟩
      have hc3l : c3.length ≤ 2000 := by
        have h1 := congrArg List.length hc3
        rw [List.length_map, backC, List.length_reverse, List.length_map, List.length_map] at h1
        omega
      have HS3 := Lib.hid (hs3.mono9 (G := Lt v3.heap.size) fun i hi => hi.2)
      have HC3 := Lib.hid hc3
      have HV3 := Lib.hid (HV2.out.trans hv3)
      clear hc3 hv3 hs3
      go_wp2_with fail
      refine (back9_any HS3.out (by omega)).mono ?_
      rintro e v4 ⟨s4, c4, rfl, hc4, hv4, hs4⟩
      have HV4 := Lib.hid (HV3.out.trans hv4)
      have hc4' : c4.map CE.c = ca.map CE.c := by rw [hc4, HC3.out, backC_backC]
      have hsm := same9_refl (hs4.mono9 (G := Lt v4.heap.size) fun i hi => hi.2) (HSA10.out.ext9 (HE11.out.trans HV4.out)) hc4'
      have HSM := Lib.hid hsm
      clear hc4 hv4 hs4 hc4' hsm
      go_wp2_with fail
      refine HSM.out.mono ?_
      rintro e v5 ⟨rfl, hv5⟩
      have HV5 := Lib.hid (HV4.out.trans hv5)
      clear hv5
      go_wp2_with fail
      refine (known09 _).mono ?_
      rintro e v6 ⟨rfl, hv6⟩
      have HXE := Lib.hid (HX9.out.trans (HX11.out.trans (HV5.out.trans hv6)))
      clear hv6
      go_wp2_with fail
      go_ret
      exact ⟨rfl, HXE.out⟩
end Go.Proofs.YtpapoalgocmlaaaGreat
