/- What the theorem needs of the texts Own12: no condition of its own. -/
import Derived.Laws.IdiomStrings
import Derived.WalkArith
import Derived.WideKeyArgs
import Derived.ChangeOld
import Derived.Handed
import Derived.ProofKit
import Derived.OpenShut
import Derived.WalkKit
import Derived.OrdersIn
import Derived.Test.YtechahocffcbpaaGreatDoorPma
import Derived.Test.YtechahocffcbpaaGreatDoorPmb
import Derived.Test.YtechahocffcbpaaGreatDoorPmc
import Derived.Test.YtechahocffcbpaaGreatDoorPmd
import Derived.Test.YtechahocffcbpaaGreatDoorPme
import Derived.Test.YtechahocffcbpaaGreatDoorPmf
import Derived.Test.YtechahocffcbpaaGreatDoorPmg
set_option maxRecDepth 100000
set_option maxHeartbeats 4000000
namespace Go.Proofs.YtechahocffcbpaaGreatDoor
open Go.RowKit Go.Maps Go.Shelf
set_option linter.unusedVariables false
set_option linter.unusedSimpArgs false
abbrev kKo : ByteArray := ⟨#[107]⟩
theorem may_ko : mayK kKo = 0 := by decide +kernel
theorem put_ko {H : Nat → Prop} {w : World} {O g : Nat} {T : RT} {n : Int} (hL : Lib0 w) (h0 : OvAt H w O (od0 T)) (hH : ∀ b, H b → b < w.heap.size) (hg : Blk w g 34 (numLC n)) (wn : (Lit.int .i64 n).wf = true) (n0 : -9223372036854775808 ≤ n) (n1 : n ≤ 9223372036854775807) :
    Calls Tryz.prog 10 #[.pointer (some ⟨O, 0, none⟩), .string kKo, oneLA g] w (PutPostO H O (od0 T) kKo (listV n) w) := by
  have hmay : ∀ W, Nw w W → Calls Tryz.prog 33 #[.string kKo] W fun e w' => e = .returned (.int .i64 0) ∧ Nw W w' := fun W hW => by
    have h := keysMay_any (w := W) (k := kKo) (by decide) (hL.nw hW)
    rw [may_ko] at h
    exact h
  have hfit : ∀ W, Nw w W → Calls Tryz.prog 34 #[oneLA g] W fun e w' => e = .returned (.int .i64 0) ∧ Nw W w' := fun W hW =>
    fits_one (Nw.blk hW hg) fun W' hW' => (hL.nw (hW.trans hW')).fmt _ (G5.refl _) n n0 n1
  have hl : (od0 T).us.length ≤ 1000000 := Nat.zero_le _
  have hk : kKo.size ≤ maxLen := by decide
  have hv : RV w (Lt w.heap.size) (listV n) ⟨some ⟨g, 0, none⟩, 1⟩ Sl.none := rv_list hg hg.lt wn
  exact put_ov (v := listV n) (sl := ⟨some ⟨g, 0, none⟩, 1⟩) (so := Sl.none) h0 hH hl hk hv hmay hfit
theorem get_one {H : Nat → Prop} {w : World} {O : Nat} {d : OD} {k : ByteArray} {n : Int} (h : OvAt H w O d) (hl : (entsT d.T).length ≤ 1000000) (hk : k.size ≤ maxLen) (hn : d.now k = some (listV n)) :
    Calls Tryz.prog 11 #[.pointer (some ⟨O, 0, none⟩), .string k] w fun e w' => ∃ (b o c : Nat) (s : Sl), e = .returned (.tuple #[.agg #[.int .i64 5, .bool false, .int .i64 0, .string ByteArray.empty, .slice (some ⟨b, o, none⟩) 1 c, .slice s.a 0 s.c], .bool true]) ∧ Ext w w' ∧ w.heap.size ≤ b ∧ b < w'.heap.size ∧ 1 ≤ c ∧ c ≤ maxLen ∧ w'.cell? ⟨b, o + 2, none⟩ = some (.int .i64 n) ∧ w'.frozen? ⟨b, o + 2, none⟩ = false := by
  have hg := get_ov h hl hk
  rw [hn] at hg
  refine hg.mono ?_
  rintro e w' ⟨sl, so, rfl, hx, hrv⟩
  obtain ⟨b, o, c, rfl, hb, h1, h2, h3⟩ := one_list hrv
  exact ⟨b, o, c, so, rfl, hx, hb.1, hb.2, h1, h2, h3, hx.free b (o + 2) hb.1⟩
theorem tget_one {w : World} {F : Nat → Prop} {T : RT} (hF : ∀ b, F b → b < w.heap.size) (hT : IsT w F T) (ok : OkR T) (hc : (entsT T).length ≤ 1000000) {k : ByteArray} {n : Int} (hn : getE (entsT T) k = some (listV n)) :
    Calls Tryz.prog 13 #[treeV T, .string k] w fun e w' => ∃ (b o c : Nat) (s : Sl), e = .returned (.tuple #[.agg #[.int .i64 5, .bool false, .int .i64 0, .string ByteArray.empty, .slice (some ⟨b, o, none⟩) 1 c, .slice s.a 0 s.c], .bool true]) ∧ Ext w w' ∧ b < w'.heap.size ∧ 1 ≤ c ∧ c ≤ maxLen ∧ w'.cell? ⟨b, o + 2, none⟩ = some (.int .i64 n) := by
  have hg := treeGet_any hF hT ok hc k
  rw [hn] at hg
  refine hg.mono ?_
  rintro e w' ⟨sl, so, rfl, hx, hrv⟩
  obtain ⟨b, o, c, rfl, hb, h1, h2, h3⟩ := one_list hrv
  exact ⟨b, o, c, so, rfl, hx, hb.2, h1, h2, h3⟩
theorem own12 {w : World} (hL : Lib0 w) {n : Int} (wn : (Lit.int .i64 n).wf = true) (n0 : -9223372036854775808 ≤ n) (n1 : n ≤ 9223372036854775807) : Calls Tryz.prog 3 #[.int .i64 n] w fun e w' => e = .returned (.bool true) ∧ Nw w w' := by
  have HL := Lib.hid hL
  have WN := Lib.hid wn
  have N0 := Lib.hid (And.intro n0 n1)
  clear hL wn n0 n1
  go_enter Tryz.func3, Tryz.ntmps3
  go_wp2_with fail
  generalize hW0 : World.alloc w _ = w0
  have hx0 : Ext w w0 := by rw [← hW0]; exact (Ext.refl w).alloc _ _
  have hbz : Blk w0 w.heap.size 29 #[.pointer none, .map none, .slice none 0 0] := by rw [← hW0]; exact Blk.new w _ _
  have HX0 := Lib.hid hx0
  have HBZ := Lib.hid hbz
  clear hW0 hx0 hbz
  refine (num12_any _ n).mono ?_
  rintro e w1 ⟨rfl, hx1⟩
  have HX1 := Lib.hid (HX0.out.trans hx1)
  have HBZ1 := Lib.hid (HBZ.out.ext hx1)
  clear hx1 HX0 HBZ
  go_wp2_with fail
  generalize hW3 : World.alloc _ _ = w3
  obtain ⟨hx3, hz3, hbg, hbv⟩ := two_blocks w1 _ _ _ _ w3 hW3
  have hz1 := HBZ1.out.lt
  have hov : OvAt (fun b => b = w1.heap.size) w3 w.heap.size (od0 none) := OvAt.fresh (F := fun _ => False) (T := none) (HBZ1.out.ext hx3) trivial trivial (fun b h => h.elim) (by omega)
  have hput := put_ko (HL.out.nw (Nw.of (HX1.out.trans hx3))) hov (fun b hb => by rw [hb]; exact hbg.lt) hbg WN.out N0.out.1 N0.out.2
  have HX3 := Lib.hid (HX1.out.trans hx3)
  have HBG := Lib.hid hbg
  have HBV := Lib.hid hbv
  have HPUT := Lib.hid hput
  have hs13 := hx3.size
  have hs01 := HX1.out.size
  clear hW3 hx3 hbg hbv hov hput
  go_wp2_with fail
  refine HPUT.out.mono ?_
  rintro e w4 ⟨rfl, sl, so, mb, s, hto⟩
  obtain ⟨d1, hd1⟩ : ∃ d, d = (od0 none).step kKo ⟨true, listV n, sl, so⟩ mb s := ⟨_, rfl⟩
  have hC1 : d1.C = [(kKo, ⟨true, listV n, sl, so⟩)] := by rw [hd1]; rfl
  have hT1 : d1.T = none := by rw [hd1]; rfl
  have hown : ∀ b, OvB w.heap.size (od0 none) b → b = w.heap.size := fun b hb => by
    rcases hb with rfl | hb | hb
    · rfl
    · cases hb
    · cases hb
  obtain ⟨hn4, ho4⟩ := hto.since (w0 := w) (Nw.of HX3.out) (fun b hb => by rw [hown b hb]; exact Nat.le_refl _)
  rw [← hd1] at hto ho4
  have hbv4 := hto.sb.blk HBV.out (fun e => by have := hown _ e; omega)
  have hbg4 := hto.sb.blk HBG.out (fun e => by have := hown _ e; omega)
  have v4 : w4.cell? ⟨w1.heap.size + 1, 4, none⟩ = some (.slice (some ⟨w1.heap.size, 0, none⟩) 1 1) := hbv4.cell 4
  have gf := hbg4.frozen 2
  have gl := hbg4.lt
  have gc : w4.cell? ⟨w1.heap.size, 2, none⟩ = some (.int .i64 n) := hbg4.cell 2
  have vl := hbv4.lt
  have HTO := Lib.hid hto
  have HN4 := Lib.hid hn4
  have HO4 := Lib.hid ho4
  have HC1 := Lib.hid hC1
  have HT1 := Lib.hid hT1
  clear hd1 hC1 hT1 hown hto hn4 ho4 hbv4 hbg4 HPUT
  go_wp2_with fail
  generalize hW5 : World.setCell w4 _ _ = w5
  have hsb5 : Sb (fun b => b = w1.heap.size) w4 w5 := by rw [← hW5]; exact (Sb.refl (fun b => b = w1.heap.size) w4).set (p := ⟨w1.heap.size, 2, none⟩) (.inr rfl) _
  have h5 := HTO.out.at_.sb hsb5 (fun b h => h)
  have hn5 : Nw w w5 := HN4.out.comp hsb5 fun i hi e => by omega
  have hnow : d1.now kKo = some (listV n) := by rw [now_some (s := ⟨true, listV n, sl, so⟩) (by rw [HC1.out]; rfl)]; rfl
  have hget := get_one h5 (by rw [HT1.out]; decide) (by decide) hnow
  have HN5 := Lib.hid hn5
  have H5 := Lib.hid h5
  have HGET := Lib.hid hget
  have HNOW := Lib.hid hnow
  clear hW5 hsb5 h5 hn5 hnow hget HTO v4 gf gl gc vl HN4
  refine HGET.out.mono ?_
  rintro e w6 ⟨b, o, c, xs, rfl, hx6, hb0, hb1, hc1, hc2, hcell, hfree⟩
  have hb1' : b < w6.heap.size + 1 := by omega
  have HX6 := Lib.hid hx6
  have hs56 := hx6.size
  clear hx6 HGET
  go_wp2_with fail
  generalize hW7 : World.alloc _ _ = w7
  have hsb7 : Sb (fun c => c = w1.heap.size ∨ w5.heap.size ≤ c) w5 w7 := by
    rw [← hW7]
    exact (((HX6.out.sb _).set (p := ⟨b, o + 2, none⟩) (.inl hb0) _)).ext ((Ext.refl _).alloc _ _)
  have h7 := (H5.out.more (G := fun c => c = w1.heap.size ∨ w5.heap.size ≤ c) (fun i hi e => e.elim id fun h => by omega)).sb hsb7 (fun _ h => h)
  have hz5 := HN5.out.size
  have hn7 : Nw w w7 := HN5.out.comp hsb7 fun i hi e => by omega
  have hcm := commit_ov h7 (by rw [HT1.out, HC1.out]; exact (show 1 ≤ 1000000 by decide))
  have hz7 := hsb7.size
  have HN7 := Lib.hid hn7
  have H7 := Lib.hid h7
  have HCM := Lib.hid hcm
  clear hW7 hsb7 h7 hn7 hcm hcell hfree hb0 hb1 hb1' hc1 hc2 HX6 H5 hs56
  refine HCM.out.mono ?_
  rintro e w8 ⟨T', rfl, ok, hT', he', hn8, -⟩
  obtain ⟨p', hp'⟩ := rootV_ptr T'
  rw [treeV, hp']
  have he : entsT T' = [(kKo, listV n)] := by rw [he', HT1.out, HC1.out]; rfl
  have hx9 : Ext w8 (w8.alloc (.cells #[.pointer p'] 25)) := (Ext.refl w8).alloc _ _
  have hget := get_one (H7.out.nw (hn8.trans (Nw.of hx9))) (by rw [HT1.out]; decide) (by decide) HNOW.out
  have htg := fun W (hW : Ext w8 W) => tget_one (w := W) (F := Up (OvF (fun c => c = w1.heap.size ∨ w5.heap.size ≤ c) w7 w.heap.size d1) w7 w8) (k := kKo) (n := n) (fun i hi => by
      have := hW.size
      have := hn8.size
      rcases hi with hi | hi
      · have := hi.1; omega
      · omega) (hT'.agree (hW.agree fun i hi => by
      have := hn8.size
      rcases hi with hi | hi
      · have := hi.1; omega
      · omega)) ok (by rw [he]; exact (show 1 ≤ 1000000 by decide)) (by rw [he]; simp [getE])
  rw [treeV, hp'] at htg
  have HN8 := Lib.hid (HN7.out.trans hn8)
  have HGET := Lib.hid hget
  have HTG := Lib.hid htg
  clear ok hT' he' he hn8 hx9 hget htg hp' HCM HNOW H7 HC1 HT1
  go_wp2_with fail
  refine HGET.out.mono ?_
  rintro e w9 ⟨b, o, c, ys, rfl, hx9, hb0, hb1, hc1, hc2, hcell, -⟩
  have hx89 : Ext w8 w9 := ((Ext.refl w8).alloc #[.pointer p'] 25).trans hx9
  have hb8 : Blk w9 w8.heap.size 25 #[.pointer p'] := (Blk.new w8 _ _).ext hx9
  have q8 : w9.cell? ⟨w8.heap.size, 0, none⟩ = some (.pointer p') := hb8.cell 0
  have l8 := hb8.lt
  have l8' : w8.heap.size < w9.heap.size + 1 := by omega
  have HX89 := Lib.hid hx89
  clear hx9 hx89 hb8 HGET
  go_wp2_with fail
  have hyb := Blk.new w9 34 #[.int .i64 5, .bool false, .int .i64 0, .string ByteArray.empty, .slice (some ⟨b, o, none⟩) 1 c, .slice ys.a 0 ys.c]
  have hxy : Ext w9 (w9.alloc (.cells #[.int .i64 5, .bool false, .int .i64 0, .string ByteArray.empty, .slice (some ⟨b, o, none⟩) 1 c, .slice ys.a 0 ys.c] 34)) := (Ext.refl w9).alloc _ _
  refine (HTG.out _ (HX89.out.trans hxy)).mono ?_
  rintro e w10 ⟨bz, oz, cz, zs, rfl, hx10, hz1', hzc1, hzc2, hzcell⟩
  have y4 : w10.cell? ⟨w9.heap.size, 4, none⟩ = some (.slice (some ⟨b, o, none⟩) 1 c) := (hyb.ext hx10).cell 4
  have yl := (hyb.ext hx10).lt
  have yl' : w9.heap.size < w10.heap.size + 1 := by omega
  have yc : w10.cell? ⟨b, o + 2, none⟩ = some (.int .i64 n) := (hx10.cell (Nat.lt_of_lt_of_le hb1 hxy.size)).trans ((hxy.cell hb1).trans hcell)
  have bl : b < w10.heap.size := Nat.lt_of_lt_of_le hb1 (Nat.le_trans hxy.size hx10.size)
  have bl' : b < w10.heap.size + 1 := by omega
  have bzl' : bz < w10.heap.size + 1 := by omega
  have hne : (n == n) = true := by simp
  have HN10 := Lib.hid (HN8.out.trans (Nw.of ((HX89.out.trans hxy).trans hx10)))
  clear hx10 hyb hxy hcell HTG q8 l8 l8'
  go_wp2_with fail
  have hn11 := HN10.out.trans (Nw.of ((Ext.refl w10).alloc #[.int .i64 5, .bool false, .int .i64 0, .string ByteArray.empty, .slice (some ⟨bz, oz, none⟩) 1 cz, .slice zs.a 0 zs.c] 34))
  refine (known12 (HL.out.nw hn11)).mono ?_
  rintro e w12 ⟨rfl, hn12⟩
  have HN12 := Lib.hid (hn11.trans hn12)
  clear hn11 hn12
  go_wp2_with fail
  go_ret
  exact ⟨rfl, HN12.out⟩
theorem i64_boundsO {q : Int} (h : (Lit.int .i64 q).wf = true) : -9223372036854775808 ≤ q ∧ q ≤ 9223372036854775807 := by
  have h1 : IntKind.i64.min = -9223372036854775808 := by decide
  have h2 : IntKind.i64.max = 9223372036854775807 := by decide
  simp [Lit.wf, h1, h2] at h; omega
theorem own12w {n : Int} (wn : (Lit.int .i64 n).wf = true) {w : World} (hL : Lib0 w) : Calls Tryz.prog 3 #[.int .i64 n] w fun e w' => e = .returned (.bool true) ∧ Nw w w' := own12 hL wn (i64_boundsO wn).1 (i64_boundsO wn).2
end Go.Proofs.YtechahocffcbpaaGreatDoor
