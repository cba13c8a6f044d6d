/- What the theorem needs of the texts Puts12: no condition of its own. -/
import Derived.Laws.IdiomStrings
import Derived.WalkArith
import Derived.OrdersIn
import Derived.Test.YtechahocffcbpaaGreatDoorPva
import Derived.Test.YtechahocffcbpaaGreatDoorPvb
import Derived.Test.YtechahocffcbpaaGreatDoorPvc
import Derived.Test.YtechahocffcbpaaGreatDoorPvd
import Derived.Test.YtechahocffcbpaaGreatDoorPve
import Derived.Test.YtechahocffcbpaaGreatDoorPvf
import Derived.Test.YtechahocffcbpaaGreatDoorPvg
import Derived.Test.YtechahocffcbpaaGreatDoorPvh
import Derived.Test.YtechahocffcbpaaGreatDoorPvi
import Derived.Test.YtechahocffcbpaaGreatDoorPvj
set_option maxRecDepth 100000
set_option maxHeartbeats 2000000
namespace Go.Proofs.YtechahocffcbpaaGreatDoor
open Go.RowKit Go.Maps Go.Shelf
set_option linter.unusedVariables false
set_option linter.unusedSimpArgs false
theorem up_ltP {H : Nat → Prop} {w w' : World} {O : Nat} {d : OD} (k : Nw w w') (b : Nat) (hb : Up (OvF H w O d) w w' b) : b < w'.heap.size := hb.elim (fun h => Nat.lt_of_lt_of_le h.1 k.size) fun h => h.2
def PutsEnd (w : World) (O R : Nat) (k : ByteArray) (v : Val) (e : Ending) (w' : World) : Prop :=
  e = .returned (.int .i64 (putC k v)) ∧ ∃ (HO : Nat → Prop) (d : OD) (n M : Nat) (s ma : Sl), OvAt HO w' O d ∧ d.us.length = n ∧ Blk w' R 55 #[ptr12 M, .slice s.a n s.c] ∧ Blk w' M 50 #[.slice ma.a n ma.c] ∧ (comE (entsT d.T) (optA d.C) (entsT d.T)).length = n ∧ (entsT d.T).length + d.C.length ≤ 1000000 ∧ Nw w w'
theorem MapAt.len {H : Nat → Prop} {w : World} {M : Nat} {es : List Ent} (h : MapAt H w M es) : ∃ s : Sl, Blk w M 50 #[.slice s.a es.length s.c] := by
  obtain ⟨-, s, xs, hb, -, hx⟩ := h
  exact ⟨s, by rw [← hx, List.length_map]; exact hb⟩
theorem ovb0 {O b : Nat} (h : OvB O (od0 none) b) : b = O := by
  rcases h with h | h | h
  · exact h
  · cases h
  · cases h
theorem puts_end {H1 HO : Nat → Prop} {w w3 w4 : World} {O R M base : Nat} {k : ByteArray} {v : Val} {sl so : Sl} (hn3 : Nw w w3) (hO : w.heap.size ≤ O) (h1 : ∀ b, H1 b → w.heap.size ≤ b) (hOH : H1 O) (hR : R ≠ O) (hM : M ≠ O) (hRM : ∀ b, (b = R ∨ b = M) → HO b) (hHO : ∀ b, HO b → b < w3.heap.size) (hv : RV w (Lt w.heap.size) v sl so) (hc : cntV v ≤ 1100000) (hk : k.size ≤ 1000)
    (hr : R12 H1 w3 base R M Sl.none [] [] []) (ho : OvAt HO w3 O (od0 none)) (hp : (putC k v = 0 ∧ ∃ sl so mb s, OvTo HO w3 O (od0 none) ((od0 none).step k ⟨true, v, sl, so⟩ mb s) w4) ∨ (putC k v ≠ 0 ∧ Nw w3 w4)) :
    Calls Tryz.prog 17 #[.pointer (some ⟨R, 0, none⟩), .string k, aggV v sl so] w4 (PutsEnd w O R k v) := by
  have hb4 : Sb (fun b => b = O) w3 w4 := by
    rcases hp with ⟨-, a, b, c, d, h⟩ | ⟨-, h⟩
    · exact h.sb.mono fun i _ hi => ovb0 hi
    · exact Nw.any h _
  have hr4 := hr.sb hb4 (fun b e => e ▸ hOH) hR hM (fun b hb => by cases hb) (fun m hm => by cases hm)
  have hn4 : Nw w w4 := hn3.comp hb4 fun i hi e => by omega
  have hv4 : RV w4 (NH H1 w4) v sl so := (hv.agree (Nw.agree hn4 fun b hb => hb)).mono fun b (hb : b < w.heap.size) => ⟨Nat.lt_of_lt_of_le hb hn4.size, fun hh => by have := h1 b hh; omega⟩
  have hpu := put12_any hr4 List.Pairwise.nil (Nat.zero_le _) (Nat.zero_le _) (k := k) (by omega) hv4 hc
  refine hpu.mono ?_
  have hnew : ∀ b, b = R ∨ b = M ∨ Sl.none.row = some b → (b = R ∨ b = M) := fun b hb => hb.elim .inl fun h => h.elim .inr fun h => by cases h
  have hno : putC k v ≠ 0 → ∀ w5, Ext w4 w5 → ∃ (HO : Nat → Prop) (d : OD) (n M : Nat) (s ma : Sl), OvAt HO w5 O d ∧ d.us.length = n ∧ Blk w5 R 55 #[ptr12 M, .slice s.a n s.c] ∧ Blk w5 M 50 #[.slice ma.a n ma.c] ∧ (comE (entsT d.T) (optA d.C) (entsT d.T)).length = n ∧ (entsT d.T).length + d.C.length ≤ 1000000 ∧ Nw w w5 := fun hne w5 hx => by
    have hq : Nw w3 w4 := hp.elim (fun h => absurd h.1 hne) fun h => h.2
    obtain ⟨ma, hma⟩ := (hr4.ext hx).cur.len
    exact ⟨HO, od0 none, 0, M, Sl.none, ma, (ho.nw hq).nw (Nw.of hx), rfl, (hr4.ext hx).blk, hma, rfl, Nat.zero_le _, hn4.trans (Nw.of hx)⟩
  rintro e w5 (⟨hm, rfl, hx⟩ | ⟨hm, hf, rfl, hx⟩ | ⟨hm, hf, rfl, H', s', M', -, -, hr5, hst, -, -⟩)
  · have hpc : putC k v = 8 := by unfold putC; rw [if_pos hm]
    exact ⟨by rw [hpc], hno (by rw [hpc]; decide) w5 hx⟩
  · have hpc : putC k v = fitV v := by unfold putC; rw [if_neg (by simp [hm])]
    exact ⟨by rw [hpc], hno (by rw [hpc]; exact hf) w5 hx⟩
  · have hpc : putC k v = 0 := by unfold putC; rw [if_neg (by simp [hm]), hf]
    rcases hp with ⟨-, a, b, c, d, h⟩ | ⟨h, -⟩
    · obtain ⟨ma, hma⟩ := hr5.cur.len
      refine ⟨by rw [hpc], fun b => b = R ∨ b = M, (od0 none).step k ⟨true, v, a, b⟩ c d, 1, M, s', ma, ?_, rfl, hr5.blk, hma, rfl, (show 0 + 1 ≤ 1000000 by decide), hn4.comp hst.sb fun i hi e => ?_⟩
      · exact (h.at_.turn (G := fun b => b = R ∨ b = M) (hst.sb.mono fun i _ hi => hnew i hi) hRM (fun b hb => .inl (hRM b hb)))
      · rcases hnew i e with rfl | rfl
        · have := h1 _ hr.hR; omega
        · have := h1 _ hr.cur.hm; omega
    · exact absurd hpc h
theorem puts12 {k : ByteArray} {v : Val} {sl so : Sl} {w : World} (hk : k.size ≤ maxLen) (hv : RV w (Lt w.heap.size) v sl so) (hc : cntV v ≤ 1100000) (hL : LibQ w) :
    Calls Tryz.prog 4 #[.string k, aggV v sl so] w fun e w' => e = .returned (.bool true) ∧ Nw w w' := by
  have HKN := Lib.hid (fun W (hW : Nw w W) => known12 (hL.lib.nw hW))
  have HL := Lib.hid hL
  have HV := Lib.hid hv
  have hx0 := (Ext.refl w).alloc (valC v sl so) 34
  have hb0 := Blk.new w 34 (valC v sl so)
  have hz0 : (w.alloc (.cells (valC v sl so) 34)).heap.size = w.heap.size + 1 := World.size_alloc _ _
  have hbg := begin_ov (w := w.alloc (.cells (valC v sl so) 34)) (H := fun _ => False) (F := fun _ => False) (T := none) trivial trivial (fun b h => h.elim) (fun b h => h.elim)
  have HBG := Lib.hid hbg
  have HX0 := Lib.hid hx0
  have HB0 := Lib.hid hb0
  have HZ0 := Lib.hid hz0
  clear hL hv hx0 hb0 hbg hz0
  go_enter Tryz.func4, Tryz.ntmps4
  go_wp2_with fail
  refine HBG.out.mono ?_
  rintro e w1 ⟨O, rfl, hO, ho, hx1⟩
  have hx2 := (Ext.refl w1).alloc #[.slice none 0 0] 50
  have hb2 := Blk.new w1 50 #[.slice none 0 0]
  have hz2 : (w1.alloc (.cells #[.slice none 0 0] 50)).heap.size = w1.heap.size + 1 := World.size_alloc _ _
  have hOl : O < w1.heap.size := ho.blk.lt
  have hm0 : MapAt (fun b => b = w1.heap.size ∨ b = O) (w1.alloc (.cells #[.slice none 0 0] 50)) w1.heap.size [] := ⟨.inl rfl, Sl.none, [], hb2, ⟨Rd.nil _ _ _, fun x h => by simp at h, by decide⟩, rfl⟩
  have hbe := begin12_any hm0 (fun b hb => by rcases hb with rfl | rfl <;> omega) (by decide)
  have HBE := Lib.hid hbe
  have HX2 := Lib.hid ((HX0.out.trans hx1).trans hx2)
  have HB2 := Lib.hid ((HB0.out.ext hx1).ext hx2)
  have HO := Lib.hid ho
  have HX12 := Lib.hid hx2
  have hO' : w.heap.size + 1 ≤ O := by have := HZ0.out; omega
  have hw1 : w.heap.size < w1.heap.size := by omega
  clear hx1 hx2 hb2 hm0 hbe HB0 HX0 HBG ho hO
  go_wp2_with fail
  refine HBE.out.mono ?_
  rintro e w3 ⟨R, M, rfl, hR, hM, hx3, hr⟩
  rw [hz2] at hR hM
  have hb3 := HB2.out.ext hx3
  obtain ⟨b0, b1, b2, b3, b4, b5⟩ := hb3.c6
  have lb := hb3.lt
  have hn3 : Nw w w3 := Nw.of (HX2.out.trans hx3)
  have hRl := hr.blk.lt
  have hMl : M < w3.heap.size := by obtain ⟨x, hx⟩ := hr.cur.blk0; exact hx.lt
  have ho3 : OvAt (fun b => b = R ∨ b = M) w3 O (od0 none) := HO.out.turn (Nw.of (HX12.out.trans hx3)) (fun b h => h.elim) (fun b hb => .inr (by rcases hb with rfl | rfl <;> omega))
  have HR := Lib.hid hr
  have HB3 := Lib.hid hb3
  have HN3 := Lib.hid hn3
  have HO3 := Lib.hid ho3
  clear hr hb3 hn3 ho3 hx3 HO HX12 HB2 HX2 HBE hz2
  by_cases hk1 : 1000 < k.size
  · have g1 : decide ((1000 : Int) < (k.size : Int)) = true := decide_eq_true (by omega)
    go_wp2_with fail
    refine (HKN.out _ HN3.out).mono ?_
    rintro e w4 ⟨rfl, hn4⟩
    have HN4 := Lib.hid (HN3.out.trans hn4)
    clear hn4
    go_wp2_with fail
    go_ret
    exact ⟨rfl, HN4.out⟩
  have g1 : decide ((1000 : Int) < (k.size : Int)) = false := decide_eq_false (by omega)
  have hRV3 : RV w3 (Lt w3.heap.size) v sl so := (HV.out.agree (Nw.agree HN3.out fun b hb => hb)).mono fun b hb => Nat.lt_of_lt_of_le hb HN3.out.size
  have hput := put_anyO HO3.out (fun b hb => by rcases hb with rfl | rfl <;> assumption) (Nat.zero_le _) hk hRV3 hc (HL.out.nw HN3.out)
  have HPUT := Lib.hid hput
  clear hput hRV3
  go_wp2_with fail
  refine HPUT.out.mono ?_
  rintro e w4 ⟨rfl, hp⟩
  have hb4 : Sb (fun b => b = O) w3 w4 := by
    rcases hp with ⟨-, a, b, c, d, h⟩ | ⟨-, h⟩
    · exact h.sb.mono fun i _ hi => ovb0 hi
    · exact Nw.any h _
  have hbx := hb4.blk HB3.out (fun e => by omega)
  have hpe := puts_end HN3.out (by omega) (fun b hb => by rcases hb with ((rfl | rfl) | rfl) | rfl <;> omega) (.inl (.inl (.inr rfl))) (by omega) (by omega) (fun b hb => hb) (fun b hb => by rcases hb with rfl | rfl <;> assumption) HV.out hc (by omega) HR.out HO3.out hp
  obtain ⟨v0, v1, v2, v3, v4, v5⟩ := hbx.c6
  have lb4 := hbx.lt
  have HPE := Lib.hid hpe
  clear hp hb4 hbx hpe b0 b1 b2 b3 b4 b5 lb HPUT HR HO3 HB3
  go_wp2_with fail
  refine HPE.out.mono ?_
  rintro e w5 ⟨rfl, HO, d, n, M5, s, ma, ho5, hu, hbR, hbM, hcom, hlen, hn5⟩
  have hn5' : Nw w w5 := hn5
  subst hu
  have HMARK := Lib.hid (fun W (hW : Nw w5 W) => mark_ov (ho5.nw hW))
  have HCOM := Lib.hid (fun W (hW : Nw w5 W) => commit_ov (ho5.nw hW) hlen)
  have HCL := Lib.hid hcom
  have HKN5 := Lib.hid (fun W (hW : Nw w5 W) => HKN.out W (hn5'.trans hW))
  have HN5 := Lib.hid hn5'
  have HSS := Lib.hid (show ∀ W, Nw w5 W → W.cell? ⟨R, 0, none⟩ = some (ptr12 M5) ∧ W.cell? ⟨R, 1, none⟩ = some (.slice s.a d.us.length s.c) ∧ R < W.heap.size ∧ W.cell? ⟨M5, 0, none⟩ = some (.slice ma.a d.us.length ma.c) ∧ M5 < W.heap.size from fun W h => ⟨(h.blk hbR).cell 0, (h.blk hbR).cell 1, (h.blk hbR).lt, (h.blk hbM).cell 0, (h.blk hbM).lt⟩)
  clear hcom hn5' hbR hbM ho5 HKN HPE
  go_wp2_with fail
  refine wp_region_held_drew (S := (fun W => Nw w5 W)) (by kernel_rfl) ((Nw.of ((Ext.refl w5).drew))) (fun hHeld => ?_)
  refine heldT 0 (some 34) HSS hHeld ?_
  refine heldT 1 (some 35) HSS hHeld ?_
  refine heldT 2 (some 36) HSS hHeld ?_
  refine heldT 3 (some 37) HSS hHeld ?_
  refine heldT 4 (some 38) HSS hHeld ?_
  refine heldT 6 (some 40) HSS hHeld ?_
  refine heldT 7 (some 41) HSS hHeld ?_
  refine heldT 8 (some 42) HSS hHeld ?_
  refine heldT 9 (some 43) HSS hHeld ?_
  refine heldT 10 (some 44) HSS hHeld ?_
  refine held_call (i := 5) (by kernel_rfl) rfl (by rfl) (fun K hK => ?_)
  go_simp
  (refine (HMARK.out _ hHeld).mono ?_; rintro e w6 ⟨rfl, hx6⟩)
  refine hK.out _ _ (hHeld.trans (Nw.of hx6)) (fun hHeld => ?_)
  clear hK K
  try simp only [Act.put, List.setIfInBounds_toArray, List.set_cons_zero, List.set_cons_succ]
  refine heldT 11 (some 45) HSS hHeld ?_
  refine heldT 12 (some 46) HSS hHeld ?_
  refine heldT 13 (some 47) HSS hHeld ?_
  refine heldT 14 (some 48) HSS hHeld ?_
  refine heldT 17 (some 51) HSS hHeld ?_
  refine heldT 18 (some 52) HSS hHeld ?_
  refine heldT 19 (some 53) HSS hHeld ?_
  refine heldT 20 (some 54) HSS hHeld ?_
  refine heldT 21 (some 55) HSS hHeld ?_
  refine heldT 22 (some 56) HSS hHeld ?_
  refine heldT 23 (some 57) HSS hHeld ?_
  refine heldT 24 (some 58) HSS hHeld ?_
  refine held_call (i := 15) (by kernel_rfl) rfl (by rfl) (fun K hK => ?_)
  go_simp
  (refine (HCOM.out _ hHeld).mono ?_; rintro e w7 ⟨T', rfl, okT, hT, heT, hn7, -⟩; have hln := treeLen_any (fun b hb => up_ltP hn7 b hb) hT; rw [heT, HCL.out] at hln; obtain ⟨p, hp⟩ := rootV_ptr T'; rw [treeV, hp] at hln; rw [treeV, hp]; have HLN := Lib.hid hln; clear hln hT okT heT hp)
  refine hK.out _ _ (hHeld.trans hn7) (fun hHeld => ?_)
  clear hK K
  try simp only [Act.put, List.setIfInBounds_toArray, List.set_cons_zero, List.set_cons_succ]
  refine held_call (i := 16) (by kernel_rfl) rfl (by rfl) (fun K hK => ?_)
  go_simp
  (refine HLN.out.mono ?_; rintro e w8 ⟨rfl, hx8⟩)
  refine hK.out _ _ (hHeld.trans (Nw.of hx8)) (fun hHeld => ?_)
  clear hK K
  try simp only [Act.put, List.setIfInBounds_toArray, List.set_cons_zero, List.set_cons_succ]
  refine heldT 25 (some 59) HSS hHeld ?_
  refine heldT 26 (some 60) HSS hHeld ?_
  refine heldT 27 (some 61) HSS hHeld ?_
  refine held_call (i := 28) (by kernel_rfl) rfl (by rfl) (fun K hK => ?_)
  go_simp
  (refine (HKN5.out _ hHeld).mono ?_; rintro e w9 ⟨rfl, hn9⟩)
  refine hK.out _ _ (hHeld.trans hn9) (fun hHeld => ?_)
  clear hK K
  try simp only [Act.put, List.setIfInBounds_toArray, List.set_cons_zero, List.set_cons_succ]
  refine heldT 29 (some 63) HSS hHeld ?_
  refine heldT 30 (some 4) HSS hHeld ?_
  refine wpAnyH_done (by kernel_rfl) ?_ _
  have HF := Lib.hid (HN5.out.trans hHeld)
  go_wp2_with fail
  go_ret
  exact ⟨rfl, HF.out⟩
end Go.Proofs.YtechahocffcbpaaGreatDoor
