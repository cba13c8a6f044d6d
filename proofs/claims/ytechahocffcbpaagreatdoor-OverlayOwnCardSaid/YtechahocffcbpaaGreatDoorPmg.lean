/- What the theorem needs of the texts Known12: no condition of its own. -/
import Derived.Laws.IdiomStrings
import Derived.WalkArith
import Derived.WideKeyArgs
import Derived.ChangeOld
import Derived.Handed
import Derived.ProofKit
import Derived.OpenShut
import Derived.WalkKit
import Derived.OrdersIn
import Derived.Test.YtechahocffcbpaaGreatDoorPma
import Derived.Test.YtechahocffcbpaaGreatDoorPmb
import Derived.Test.YtechahocffcbpaaGreatDoorPmc
import Derived.Test.YtechahocffcbpaaGreatDoorPmd
import Derived.Test.YtechahocffcbpaaGreatDoorPme
import Derived.Test.YtechahocffcbpaaGreatDoorPmf
set_option maxRecDepth 100000
set_option maxHeartbeats 4000000
namespace Go.Proofs.YtechahocffcbpaaGreatDoor
open Go.RowKit Go.Maps Go.Shelf
set_option linter.unusedVariables false
set_option linter.unusedSimpArgs false
abbrev kAo : ByteArray := ⟨#[97]⟩
abbrev kBo : ByteArray := ⟨#[98]⟩
abbrev kEo : ByteArray := ⟨#[]⟩
theorem begins_all (k : ByteArray) : beginsO kEo k = true := by
  have h : (ByteArray.mk #[]).toList = [] := by rw [ByteArray.toList_eq]
  show (ByteArray.toList _).isPrefixOf _ = true
  rw [h]; rfl
theorem may_bo : mayK kBo = 0 := by decide +kernel
theorem now_b {d : OD} {s : SV} (hT : entsT d.T = [(kAo, numV 1)]) (hC : d.C = putA [] kBo s) : d.now kAo = some (numV 1) := by
  rw [now_none (by rw [hC, getA_put, if_neg (by decide)]; rfl), hT]
  simp [getE]
theorem pre_b {d : OD} {s z : SV} (hT : entsT d.T = [(kAo, numV 1)]) (hC : d.C = putA (putA [] kBo s) kAo z) (hs : s.has = true) (hz : z.has = false) {ks : List ByteArray} (hr : ks.Pairwise fun x y => klt x y = true)
    (hm : ∀ k, k ∈ ks ↔ (beginsO kEo k = true ∧ (d.now k).isSome = true)) : ks = [kBo] := by
  refine rise_ext hr (List.pairwise_singleton _ _) fun k => ?_
  rw [hm k, begins_all]
  have hg : getA d.C k = if k = kAo then some z else if k = kBo then some s else none := by rw [hC, getA_put, getA_put]; rfl
  by_cases h1 : k = kAo
  · subst h1
    rw [if_pos rfl] at hg
    rw [now_some hg]
    simp [SV.opt, hz]
  · rw [if_neg h1] at hg
    by_cases h2 : k = kBo
    · subst h2
      rw [if_pos rfl] at hg
      rw [now_some hg]
      simp [SV.opt, hs]
    · rw [if_neg h2] at hg
      rw [now_none hg, hT]
      simp [getE, h1, h2]
      exact fun h => h1 h.symm
theorem pre_a {d : OD} (hT : entsT d.T = [(kAo, numV 1)]) (hC : d.C = []) {ks : List ByteArray} (hr : ks.Pairwise fun x y => klt x y = true)
    (hm : ∀ k, k ∈ ks ↔ (beginsO kEo k = true ∧ (d.now k).isSome = true)) : ks = [kAo] := by
  refine rise_ext hr (List.pairwise_singleton _ _) fun k => ?_
  rw [hm k, begins_all, now_none (by rw [hC]; rfl), hT]
  by_cases h1 : k = kAo
  · subst h1; simp [getE]
  · simp [getE, h1]
    exact fun h => h1 h.symm
theorem rd_one (w : World) (k : ByteArray) : Rd (w.alloc (.cells #[.string k] 9)) (fun b => b = w.heap.size) 1 ⟨some ⟨w.heap.size, 0, none⟩, 1⟩ 1 [.string k] :=
  Rd.block (cs := [.string k]) (n := 1) (size := 1) (Blk.new w _ _) (by decide) rfl
theorem put_bo {w : World} {O : Nat} {T : RT} (hL : Lib0 w) (h0 : OvAt (fun _ => False) w O (od0 T)) : Calls Tryz.prog 10 #[.pointer (some ⟨O, 0, none⟩), .string kBo, numA 2] w (PutPostO (fun _ => False) O (od0 T) kBo (numV 2) w) := by
  have hmay : ∀ W, Nw w W → Calls Tryz.prog 33 #[.string kBo] W fun e w' => e = .returned (.int .i64 0) ∧ Nw W w' := fun W hW => by
    have h := keysMay_any (w := W) (k := kBo) (by decide) (hL.nw hW)
    rw [may_bo] at h
    exact h
  have hfit : ∀ W, Nw w W → Calls Tryz.prog 34 #[numA 2] W fun e w' => e = .returned (.int .i64 0) ∧ Nw W w' := fun W hW =>
    fits_int W 2 fun W' hW' => (hL.nw (hW.trans hW')).fmt _ (G5.refl _) 2 (by decide) (by decide)
  have hl : (od0 T).us.length ≤ 1000000 := Nat.zero_le _
  have hk : kBo.size ≤ maxLen := by decide
  have hv : RV w (Lt w.heap.size) (numV 2) Sl.none Sl.none := rv_numO _ _ (by decide)
  exact put_ov (v := numV 2) (sl := Sl.none) (so := Sl.none) h0 (fun b h => h.elim) hl hk hv hmay hfit
theorem known12 {w : World} (hL : Lib0 w) : Calls Tryz.prog 14 #[] w fun e w' => e = .returned (.bool true) ∧ Nw w w' := by
  have HL := Lib.hid hL
  clear hL
  go_enter Tryz.func14, Tryz.ntmps14
  go_wp2_with fail
  refine (num12_any _ 1).mono ?_
  rintro e w1 ⟨rfl, hx1⟩
  have HX1 := Lib.hid hx1
  clear hx1
  go_wp2_with fail
  refine (tree_oneO (a := kAo) (n := 1) (by decide) (by decide) (Blk.new w1 _ _)).mono ?_
  rintro e w2 ⟨T, rfl, ok, he, hT, hx2⟩
  have hx02 := HX1.out.trans (((Ext.refl w1).alloc _ _).trans hx2)
  have hbg := begin_ov (H := fun _ => False) hT ok (fun b hb => ⟨hb.2, id⟩) (fun b h => h.elim)
  obtain ⟨p, hp⟩ := rootV_ptr T
  rw [treeV, hp] at hbg
  rw [treeV, hp]
  have HX2 := Lib.hid hx02
  have HBG := Lib.hid hbg
  have HE := Lib.hid he
  clear hx02 hbg he ok hT hx2 HX1 hp
  go_wp2_with fail
  refine HBG.out.mono ?_
  rintro e w3 ⟨O, rfl, hO, h0, hx3⟩
  have hn3 : Nw w w3 := Nw.of (HX2.out.trans hx3)
  have ho3 : ∀ b, OvB O (od0 T) b → w.heap.size ≤ b := fun b hb => by
    have := HX2.out.size
    rcases hb with rfl | hb | hb
    · omega
    · cases hb
    · cases hb
  have hmk : Calls Tryz.prog 18 #[.pointer (some ⟨O, 0, none⟩)] w3 fun e w' => e = .returned (.int .i64 0) ∧ Ext w3 w' := mark_ov h0
  have HN3 := Lib.hid hn3
  have HO3 := Lib.hid ho3
  have HMK := Lib.hid hmk
  have H0 := Lib.hid h0
  clear hx3 h0 hn3 ho3 hmk HBG hO HX2
  go_wp2_with fail
  refine HMK.out.mono ?_
  rintro e w4 ⟨rfl, hx4⟩
  have HX4 := Lib.hid hx4
  clear hx4 HMK
  go_wp2_with fail
  refine (num12_any _ 2).mono ?_
  rintro e w5 ⟨rfl, hx5⟩
  have hx35 := HX4.out.trans hx5
  have hn5 := HN3.out.trans (Nw.of hx35)
  have hput : Calls Tryz.prog 10 #[.pointer (some ⟨O, 0, none⟩), .string kBo, numA 2] w5 (PutPostO (fun _ => False) O (od0 T) kBo (numV 2) w5) :=
    put_bo (HL.out.nw hn5) (H0.out.ext hx35)
  have HN5 := Lib.hid hn5
  have HPUT := Lib.hid hput
  clear hx5 hx35 hn5 hput HX4 H0 HL HN3
  go_wp2_with fail
  refine HPUT.out.mono ?_
  rintro e w6 ⟨rfl, sl, so, mb, s, hto⟩
  obtain ⟨hn6, ho6⟩ := hto.since HN5.out HO3.out
  obtain ⟨d1, hd1⟩ : ∃ d, d = (od0 T).step kBo ⟨true, numV 2, sl, so⟩ mb s := ⟨_, rfl⟩
  have hT1 : entsT d1.T = [(kAo, numV 1)] := by rw [hd1]; exact HE.out
  have hC1 : d1.C = putA [] kBo ⟨true, numV 2, sl, so⟩ := by rw [hd1]; rfl
  have hl1 : d1.us.length = 1 := by rw [hd1]; rfl
  have h6 := hto.at_
  rw [← hd1] at h6 ho6
  have hdel := delete_ov h6 (fun b h => h.elim) (by rw [hl1]; decide) (by rw [hT1]; decide) (k := kAo) (by decide)
  unfold DelPostO at hdel
  rw [now_b hT1 hC1] at hdel
  have HN6 := Lib.hid hn6
  have HO6 := Lib.hid ho6
  have HDEL := Lib.hid hdel
  have HC1 := Lib.hid hC1
  have HT1 := Lib.hid hT1
  have HL1 := Lib.hid hl1
  clear hto hn6 ho6 hd1 hT1 hC1 hl1 h6 hdel HPUT HN5 HO3 HE
  go_wp2_with fail
  refine HDEL.out.mono ?_
  rintro e w7 ⟨rfl, ⟨hf, -⟩ | ⟨-, mb2, s2, hto⟩⟩
  · cases hf
  obtain ⟨hn7, ho7⟩ := hto.since HN6.out HO6.out
  obtain ⟨d2, hd2⟩ : ∃ d, d = d1.step kAo zeroSV mb2 s2 := ⟨_, rfl⟩
  have hT2 : entsT d2.T = [(kAo, numV 1)] := by rw [hd2]; exact HT1.out
  have hC2 : d2.C = putA (putA [] kBo ⟨true, numV 2, sl, so⟩) kAo zeroSV := by rw [hd2, ← HC1.out]; rfl
  have hl2 : d2.us.length = 2 := by rw [hd2]; show (d1.us ++ [_]).length = 2; rw [List.length_append, HL1.out]; rfl
  have h7 := hto.at_
  rw [← hd2] at h7 ho7
  have hpre := prefix_ov h7 (by rw [hT2]; decide) (by rw [hl2]; decide) (p := kEo) (by decide)
  have HN7 := Lib.hid hn7
  have HO7 := Lib.hid ho7
  have HPRE := Lib.hid hpre
  have HC2 := Lib.hid hC2
  have HT2 := Lib.hid hT2
  have HL2 := Lib.hid hl2
  have H7 := Lib.hid h7
  clear hto hn7 ho7 hd2 hT2 hC2 hl2 h7 hpre HDEL HN6 HO6 HC1 HT1 HL1
  go_wp2_with fail
  refine HPRE.out.mono ?_
  rintro e w8 ⟨sp, ks, rfl, hn8, hrd, hri, hm⟩
  obtain rfl := pre_b HT2.out HC2.out rfl rfl hri hm
  have h8 := H7.out.nw hn8
  have hbk : Calls Tryz.prog 20 #[.pointer (some ⟨O, 0, none⟩), .int .i64 0] w8 (BackPost (fun _ => False) O d2 0 w8) := back_ov h8 (by rw [HL2.out]; decide) (m := 0) (Nat.zero_le _)
  have HN8 := Lib.hid (HN7.out.trans hn8)
  have HRD := Lib.hid hrd
  have HBK := Lib.hid hbk
  have HB8 := Lib.hid (fun b (hb : In w7.heap.size w8.heap.size b) => (⟨fun e => by have := H7.out.own_lt e; have := hb.1; omega, hb.2⟩ : ¬ OvB O d2 b ∧ b < w8.heap.size))
  clear hn8 hrd hri hm h8 hbk HPRE HN7 H7 HC2 HL2
  go_wp2_with fail
  refine HBK.out.mono ?_
  rintro e w9 ⟨rfl, hto⟩
  obtain ⟨hn9, ho9⟩ := hto.since HN8.out HO7.out
  obtain ⟨d3, hd3⟩ : ∃ d : OD, d = ⟨d2.T, d2.mb, d2.s, d2.us.take 0, d2.Hs.take (0 + 1), backA d2.us d2.C 0⟩ := ⟨_, rfl⟩
  have h9 := hto.at_
  rw [← hd3] at h9
  have hl3 : d3.us.length = 0 := by rw [hd3]; rfl
  have hC3 : d3.C = [] := by
    have a := h9.h0
    have b := h9.last
    rw [hl3, a] at b
    exact (Option.some.inj b).symm
  have hT3 : entsT d3.T = [(kAo, numV 1)] := by rw [hd3]; exact HT2.out
  have hrd9 : Rd w9 (In w7.heap.size w8.heap.size) 1 sp 1 [.string kBo] := HRD.out.agree fun b hb => hto.sb.block b (HB8.out b hb).2 (HB8.out b hb).1
  have hsm : ∀ W, Nw w9 W → Calls Tryz.prog 28 #[.slice sp.a 1 sp.c, .slice (some ⟨W.heap.size, 0, none⟩) 1 1] (W.alloc (.cells #[.string kBo] 9)) fun e w' => e = .returned (.bool true) ∧ Ext (W.alloc (.cells #[.string kBo] 9)) w' := fun W hW =>
    same12_refl (xs := [kBo]) (s := sp) (s' := ⟨some ⟨W.heap.size, 0, none⟩, 1⟩) (hrd9.agree (Nw.agree (hW.trans (Nw.of ((Ext.refl W).alloc #[.string kBo] 9))) fun b hb => Nat.lt_of_lt_of_le (HB8.out b hb).2 hto.sb.size))
      (fun b hb => Nat.lt_of_lt_of_le (HB8.out b hb).2 (Nat.le_trans hto.sb.size (Nat.le_trans hW.size ((Ext.refl W).alloc #[.string kBo] 9).size))) (rd_one W kBo) (fun b hb => by rw [hb, World.size_alloc]; omega) (by decide)
  have hpre := fun W (hW : Nw w9 W) => prefix_ov (h9.nw hW) (by rw [hT3]; decide) (by rw [hl3]; decide) (p := kEo) (by decide)
  have HN9 := Lib.hid hn9
  have HSM := Lib.hid hsm
  have HPRE := Lib.hid hpre
  have HC3 := Lib.hid hC3
  have HT3 := Lib.hid hT3
  clear hto hn9 ho9 hd3 h9 hl3 hC3 hT3 hrd9 hsm hpre HBK HN8 HRD HO7 HB8 HT2
  go_wp2_with fail
  refine (HSM.out _ (Nw.of (Ext.refl _))).mono ?_
  rintro e w10 ⟨rfl, hx10⟩
  have HX10 := Lib.hid (((Ext.refl w9).alloc #[.string kBo] 9).trans hx10)
  clear hx10 HSM
  go_wp2_with fail
  refine (HPRE.out _ (Nw.of HX10.out)).mono ?_
  rintro e w11 ⟨sq, ks, rfl, hn11, hrd, hri, hm⟩
  obtain rfl := pre_a HT3.out HC3.out hri hm
  have hsm : Calls Tryz.prog 28 #[.slice sq.a 1 sq.c, .slice (some ⟨w11.heap.size, 0, none⟩) 1 1] (w11.alloc (.cells #[.string kAo] 9)) fun e w' => e = .returned (.bool true) ∧ Ext (w11.alloc (.cells #[.string kAo] 9)) w' :=
    same12_refl (xs := [kAo]) (s := sq) (s' := ⟨some ⟨w11.heap.size, 0, none⟩, 1⟩) (hrd.agree (Nw.agree (Nw.of ((Ext.refl w11).alloc #[.string kAo] 9)) fun b hb => hb.2))
      (fun b hb => by have := hb.2; rw [World.size_alloc]; omega) (rd_one w11 kAo) (fun b hb => by rw [hb, World.size_alloc]; omega) (by decide)
  have HN11 := Lib.hid ((HN9.out.trans (Nw.of HX10.out)).trans hn11)
  have HSM := Lib.hid hsm
  clear hn11 hrd hri hm hsm HPRE HX10 HN9 HC3 HT3
  go_wp2_with fail
  refine HSM.out.mono ?_
  rintro e w12 ⟨rfl, hx12⟩
  have HN12 := Lib.hid (HN11.out.trans (Nw.of (((Ext.refl w11).alloc #[.string kAo] 9).trans hx12)))
  clear hx12 HSM HN11
  go_wp2_with fail
  go_ret
  exact ⟨rfl, HN12.out⟩
end Go.Proofs.YtechahocffcbpaaGreatDoor
