/- tree.Build. -/
import Derived.Test.YtpapoalgocmlaaaBuiltP
import Derived.Test.YtpapoalgocmlaaaTrees
import Derived.Test.YtpapoalgocmlaaaGet
import Derived.Test.YtpapoalgocmlaaaSt
namespace Go.Proofs.Ytpapoalgocmlaaa
open Go.RowKit
set_option linter.unusedVariables false
set_option linter.unusedSimpArgs false

def BuildPost (es : List Ent) (w : World) (e : Ending) (w' : World) : Prop :=
  ∃ T, e = .returned (treeV T) ∧ BuiltR es T ∧ IsT w' (In w.heap.size w'.heap.size) T ∧ Ext w w'

theorem rootV_ptr (T : RT) : ∃ p, rootV T = .pointer p := by
  match T with
  | none => exact ⟨_, rfl⟩
  | some ⟨h, t⟩ => exact ⟨_, rfl⟩
theorem ES.at' {w : World} {F : Nat → Prop} {b o c : Nat} {xs : List LE} (h : ES w F ⟨some ⟨b, o, none⟩, c⟩ xs) {i : Nat} {x : LE} (hx : xs[i]? = some x) :
    F b ∧ w.cell? ⟨b, o + i * 7, none⟩ = some (.string x.k) ∧ VCells w b (o + i * 7 + 1) x.v x.sl x.so ∧ RV w F x.v x.sl x.so ∧ x.k.size ≤ maxLen := by
  obtain ⟨b', o', ha, hb, -, -, h1, h2, h3, h4⟩ := h.at hx
  obtain ⟨rfl, rfl⟩ : b = b' ∧ o = o' := by simpa using ha
  exact ⟨hb, h1, h2, h3, h4⟩
theorem ES.ext {w w' : World} {s : Sl} {xs : List LE} (h : ES w (Lt w.heap.size) s xs) (he : Ext w w') : ES w' (Lt w'.heap.size) s xs := (h.agree (he.agree fun _ h => h)).mono fun _ hi => Nat.lt_of_lt_of_le hi he.size

set_option maxRecDepth 100000 in
set_option maxHeartbeats 1000000 in
theorem build_any {w : World} {s : Sl} {xs : List LE} (hs : ES w (Lt w.heap.size) s xs) (hl : xs.length ≤ 100000) : Calls Try.prog 63 #[.slice s.a xs.length s.c] w (BuildPost (xs.map LE.ent) w) := by
  have HS := Lib.hid hs
  clear hs
  go_enter Try.func63, Try.ntmps63
  go_wp2_with fail
  generalize hW0 : World.alloc (World.alloc _ _) _ = W0
  obtain ⟨hxx, hzz, hb0, hb1⟩ := two_blocks w _ _ _ _ W0 hW0
  clear hW0
  go_loopw [8] (fun i wr => ∃ (j : Nat) (T : RT) (p : Option Addr), j ≤ xs.length ∧ i = .int .i64 j ∧ Ext w wr ∧ Blk wr w.heap.size 30 #[.pointer none] ∧ Blk wr (w.heap.size + 1) 30 #[.pointer p] ∧ Hid (rootV T = .pointer p) ∧ BuiltR ((xs.take j).map LE.ent) T ∧ IsT wr (In (w.heap.size + 2) wr.heap.size) T)
    (fun i _ => xs.length - (intOf i).toNat)
  case atStart => exact ⟨0, none, none, Nat.zero_le _, rfl, hxx, hb0, hb1, Lib.hid rfl, .nil, trivial⟩
  case round =>
    obtain ⟨j, T, p, hj, rfl, hx, hR, hS, HP, hB, hT⟩ := hrel
    clear hxx hzz hb0 hb1
    have HX := Lib.hid hx
    have HR := Lib.hid hR
    have HB := Lib.hid hB
    have HT := Lib.hid hT
    have HSS := Lib.hid hS
    have c0 : wr.cell? ⟨w.heap.size + 1, 0, none⟩ = some (.pointer p) := hS.cell 0
    have fS := hS.frozen
    have lS := hS.lt
    by_cases hlt : j < xs.length
    · obtain ⟨x, hxj⟩ : ∃ x, xs[j]? = some x := ⟨_, List.getElem?_eq_getElem hlt⟩
      obtain ⟨b, o, ha, hbl, hlc, hcm, k0, hv, hrv, hkm⟩ := (HS.out.ext hx).at hxj
      obtain ⟨v0, v1, v2, v3, v4, v5⟩ := hv.m
      have hil' : (j : Int) < (xs.length : Int) := by omega
      have hok := hB.both
      have hpt : ∀ W, Ext wr W → Calls Try.prog 36 #[.agg #[.pointer p], .string x.k, aggV x.v x.sl x.so] W (PutPost (In (w.heap.size + 2) wr.heap.size) T x.k x.v W) := fun W hW => by
        rw [← HP.out]
        exact put_any (fun b hb => Nat.lt_of_lt_of_le hb.2 hW.size) (hT.agree (hW.agree fun b hb => hb.2)) hok.1 (by
          rw [hok.2]
          have := putAll_len ((xs.take j).map LE.ent) []
          simp only [List.length_map, List.length_take, List.length_nil] at this
          omega) hkm ((hrv.agree (hW.agree fun b hb => hb)).mono fun b hb => Nat.lt_of_lt_of_le hb hW.size)
      obtain ⟨sa, sc⟩ := s
      dsimp only at ha
      subst ha
      have HPT := Lib.hid hpt
      have HXJ := Lib.hid hxj
      clear hx hR hS hB hT hxj hv hrv hok hpt
      go_wp2_with fail
      refine (HPT.out _ ((Ext.refl wr).alloc _ _)).mono ?_
      rintro e w2 ⟨T2, rfl, hp2, hT2, hx2⟩
      obtain ⟨p2, hq2⟩ := rootV_ptr T2
      have HQ2 := Lib.hid hq2
      dsimp only [treeV]
      rw [hq2]
      clear hq2
      have hX2 : Ext wr w2 := ((Ext.refl wr).alloc _ _).trans hx2
      have d0 : w2.cell? ⟨w.heap.size + 1, 0, none⟩ = some (.pointer p) := (hX2.cell lS).trans c0
      have f2 : ∀ o, w2.frozen? ⟨w.heap.size + 1, o, none⟩ = false := fun o => (hX2.frozen lS).trans (fS o)
      have hE := (HX.out.trans hX2).setCell (p := ⟨w.heap.size + 1, 0, none⟩) (show w.heap.size ≤ w.heap.size + 1 by omega) (.pointer p2)
      have hR2 := (HR.out.ext hX2).far (p := ⟨w.heap.size + 1, 0, none⟩) (by simp) (.pointer p2)
      have hS2 : Blk (w2.setCell ⟨w.heap.size + 1, 0, none⟩ (.pointer p2)) (w.heap.size + 1) 30 #[.pointer p2] := (HSS.out.ext hX2).set_ 0 _
      have hT3 : IsT (w2.setCell ⟨w.heap.size + 1, 0, none⟩ (.pointer p2)) (In (w.heap.size + 2) (w2.setCell ⟨w.heap.size + 1, 0, none⟩ (.pointer p2)).heap.size) T2 := by
        have hs2 := hX2.size
        have hlt := lS
        have hm : ∀ i, Up (In (w.heap.size + 2) wr.heap.size) (wr.alloc (.cells #[.string x.k, .int .i64 x.v.kind, .bool x.v.b, .int .i64 x.v.i, .string x.v.t, .slice x.sl.a x.v.l.length x.sl.c, .slice x.so.a x.v.ok.length x.so.c] 56)) w2 i → In (w.heap.size + 2) w2.heap.size i := fun i hi => by
          rcases hi with hi | hi
          · exact ⟨hi.1, Nat.lt_of_lt_of_le hi.2 hs2⟩
          · have := hi.1
            simp at this
            exact ⟨by omega, hi.2⟩
        refine ((hT2.mono hm).agree (Agree.setCell w2 ⟨w.heap.size + 1, 0, none⟩ _ (fun h => by have h1 : w.heap.size + 2 ≤ w.heap.size + 1 := h.1; omega))).mono fun i hi => ⟨hi.1, by simpa using hi.2⟩
      have HB2 := Lib.hid (BuiltR.snoc HB.out hp2)
      have H1 := Lib.hid hE
      have H2 := Lib.hid hR2
      have H3 := Lib.hid hS2
      have H4 := Lib.hid hT3
      clear hp2 hT2 hx2 hX2 hE hR2 hS2 hT3
      go_wp2_with fail
      go_roundw
      case rel => exact ⟨j + 1, T2, p2, hlt, by go_num, H1.out, H2.out, H3.out, HQ2, by rw [List.take_add_one, HXJ.out, List.map_append]; exact HB2.out, H4.out⟩
      case measure => simp [intOf]; omega
    · obtain rfl : j = xs.length := by omega
      have r0 : wr.cell? ⟨w.heap.size, 0, none⟩ = some (.pointer none) := hR.cell 0
      have fR := hR.frozen
      clear hx hR hS hB hT
      go_wp2_with fail
      have q0 : (wr.setCell ⟨w.heap.size, 0, none⟩ (.pointer p)).cell? ⟨w.heap.size, 0, none⟩ = some (.pointer p) := World.cell?_setCell_same wr _ _ r0
      refine bodyPost_ret (v := .agg #[.pointer p]) (by simp [results, Try.results63, go_sem, q0]) rfl ?_
      refine ⟨T, by rw [treeV, HP.out], by have := HB.out; rwa [List.take_length] at this, ?_, HX.out.setCell (p := ⟨w.heap.size, 0, none⟩) (Nat.le_refl _) _⟩
      exact (HT.out.agree (Agree.setCell wr ⟨w.heap.size, 0, none⟩ _ (fun h => by have h1 : w.heap.size + 2 ≤ w.heap.size := h.1; omega))).mono fun i hi => ⟨by have := hi.1; omega, by simpa using hi.2⟩
end Go.Proofs.Ytpapoalgocmlaaa
