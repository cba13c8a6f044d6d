/- node.copies, (*Node).Entries, (*Node).Entry: entries in new memory. -/
import Derived.Test.YtpapoalgocmlaaaNode
namespace Go.Proofs.Ytpapoalgocmlaaa
open Go.RowKit

/-- The cells of a filled row. -/
theorem FillM.own {w : World} {B n : Nat} {xs : List LE} (hrow : Filling w B 56 7 xs.length) (hk : ∀ j x, xs[j]? = some x → w.cell? ⟨B, j * 7, none⟩ = some (.string x.k) ∧ VCells w B (j * 7 + 1) x.v x.sl x.so) (hn : n ≤ B) (hm : xs.length ≤ maxLen) :
    w.ownsRow n 56 7 (.slice (some ⟨B, 0, none⟩) xs.length xs.length) xs.length (flatE xs) := by
  obtain ⟨arr, h1, h2⟩ := hrow
  refine ⟨flatE_len xs, .inr ⟨B, xs.length, arr, rfl, hn, h1, Nat.le_refl _, hm, h2, ?_⟩⟩
  rw [List.take_of_length_le (by rw [Array.length_toList, h2]; exact Nat.le_refl _)]
  apply List.ext_getElem?
  intro p
  by_cases hp : p < xs.length * 7
  · obtain ⟨j, c, rfl, hc7⟩ : ∃ j c, p = j * 7 + c ∧ c < 7 := ⟨p / 7, p % 7, by omega, by omega⟩
    obtain ⟨x, hx⟩ : ∃ x, xs[j]? = some x := ⟨_, List.getElem?_eq_getElem (by omega)⟩
    obtain ⟨e0, e⟩ := hk _ _ hx
    rw [flatE_at hx c hc7]
    have hc : ∀ o, w.cell? ⟨B, o, none⟩ = arr.toList[o]? := fun o => by rw [cell_of_row w B o arr _ _ h1]; simp
    rw [← hc]
    have hc7' : c = 0 ∨ c = 1 ∨ c = 2 ∨ c = 3 ∨ c = 4 ∨ c = 5 ∨ c = 6 := by omega
    rcases hc7' with rfl | rfl | rfl | rfl | rfl | rfl | rfl
    · exact e0
    · exact e.c0
    · exact e.c1
    · exact e.c2
    · exact e.c3
    · exact e.c4
    · exact e.c5
  · rw [List.getElem?_eq_none (by rw [Array.length_toList, h2]; omega), List.getElem?_eq_none (by rw [flatE_len]; omega)]

/-- What copies hands back: the same entries, in new memory. -/
def CopiesPost (xs : List LE) (w : World) (e : Ending) (w' : World) : Prop :=
  ∃ (s' : Sl) (xs' : List LE), e = .returned (.slice s'.a xs'.length s'.c) ∧ xs'.map LE.ent = xs.map LE.ent ∧ OE w' w.heap.size s' xs' ∧ Ext w w'

set_option maxRecDepth 100000 in
set_option maxHeartbeats 1000000 in
theorem copies_any {w : World} {s : Sl} {xs : List LE} (hs : ES w (Lt w.heap.size) s xs) : Calls Try.prog 155 #[.slice s.a xs.length s.c] w (CopiesPost xs w) := by
  obtain ⟨i0, hi, hz0, hz1, hz2⟩ := info_parts Try.infoEntry
  have hfew := hs.few
  have hmk := fun W => run_make_rowN (P := Try.prog) 53 56 i0 _ Try.underlying53 hi hz0 .i64 .i64 xs.length xs.length (Nat.le_refl _) (by rw [hz2]; omega) (by omega) W
  have HS := Lib.hid hs
  clear hs
  go_enter Try.func155, Try.ntmps155
  go_wp2_with fail
  clear hmk
  generalize hW0 : World.alloc _ _ = W0
  have hx0 : Ext w W0 := by rw [← hW0]; exact (Ext.refl w).alloc _ _
  have hz : W0.heap.size = w.heap.size + 1 := by rw [← hW0]; simp
  have hfil : Filling W0 w.heap.size 56 7 (xs.map LE.k).length := by
    rw [← hW0, List.length_map]; exact Filling.made _ (size_madeCells _ _)
  clear hW0
  go_loopw [11] (fun q wr => ∃ (j : Nat) (f : Nat → Sl × Sl), j ≤ xs.length ∧ q = .int .i64 j ∧ Ext w wr ∧ FillM wr w.heap.size 56 (xs.map LE.k) (xs.map LE.v) j f) (fun q _ => xs.length - (intOf q).toNat)
  case atStart => exact ⟨0, fun _ => (Sl.none, Sl.none), Nat.zero_le _, rfl, hx0, FillM.start hfil _⟩
  case round =>
    clear hx0 hz hfil W0
    obtain ⟨j, f, hj, rfl, hx, hf⟩ := hrel
    have hbw : w.heap.size < wr.heap.size := hf.row.lt
    by_cases hlt : j < xs.length
    · obtain ⟨x, hxj⟩ : ∃ x, xs[j]? = some x := ⟨_, List.getElem?_eq_getElem hlt⟩
      have hag : Agree (Lt w.heap.size) w wr := hx.agree fun _ h => h
      obtain ⟨b, o, ha, hbo, hlc, hcm, hk0, hv, hrv, hkm⟩ := HS.out.at hxj
      obtain ⟨v0, v1, v2, v3, v4, v5⟩ := (hv.agree hag hbo).m
      have vk := (hag.cell hbo).trans hk0
      have hic : ∀ W, Ext wr W → Calls Try.prog 127 #[aggV x.v x.sl x.so] W (CopyPost x.v W) := fun W hW =>
        copy_any _ x.v (Nat.le_refl _) W _ _ ((hrv.agree (hag.trans (hW.agree fun _ h => Nat.lt_of_lt_of_le h hx.size))).mono fun i hi => Nat.lt_of_lt_of_le hi (Nat.le_trans hx.size hW.size))
      have HXJ := Lib.hid hxj
      have HF := Lib.hid hf
      have HX := Lib.hid hx
      have hne : ¬ w.heap.size = wr.heap.size := by omega
      have hrow := hf.row
      rw [List.length_map] at hrow
      obtain ⟨x0, hx0⟩ : ∃ v, wr.cell? ⟨w.heap.size, j * 7, none⟩ = some v := hrow.cell (by omega)
      obtain ⟨x1, hx1⟩ : ∃ v, wr.cell? ⟨w.heap.size, j * 7 + 1, none⟩ = some v := hrow.cell (by omega)
      obtain ⟨x2, hx2⟩ : ∃ v, wr.cell? ⟨w.heap.size, j * 7 + 2, none⟩ = some v := hrow.cell (by omega)
      obtain ⟨x3, hx3⟩ : ∃ v, wr.cell? ⟨w.heap.size, j * 7 + 3, none⟩ = some v := hrow.cell (by omega)
      obtain ⟨x4, hx4⟩ : ∃ v, wr.cell? ⟨w.heap.size, j * 7 + 4, none⟩ = some v := hrow.cell (by omega)
      obtain ⟨x5, hx5⟩ : ∃ v, wr.cell? ⟨w.heap.size, j * 7 + 5, none⟩ = some v := hrow.cell (by omega)
      obtain ⟨x6, hx6⟩ : ∃ v, wr.cell? ⟨w.heap.size, j * 7 + 6, none⟩ = some v := hrow.cell (by omega)
      have hff := hrow.frozen
      rw [ha]
      have HA := Lib.hid ha
      clear hxj hag hf hx hv hk0 hrow ha hrv hkm
      go_wp2_with fail
      go_region_held3 (fun w' => w'.cell? ⟨wr.heap.size, 0, none⟩ = some (.string x.k) ∧ w'.cell? ⟨wr.heap.size, 1, none⟩ = some (.int .i64 x.v.kind) ∧ w'.cell? ⟨wr.heap.size, 2, none⟩ = some (.bool x.v.b) ∧ w'.cell? ⟨wr.heap.size, 3, none⟩ = some (.int .i64 x.v.i) ∧ w'.cell? ⟨wr.heap.size, 4, none⟩ = some (.string x.v.t) ∧ w'.cell? ⟨wr.heap.size, 5, none⟩ = some (.slice x.sl.a x.v.l.length x.sl.c) ∧ w'.cell? ⟨wr.heap.size, 6, none⟩ = some (.slice x.so.a x.v.ok.length x.so.c)) (go_keep)
        ((go_at_call 127; refine (hic _ (((Ext.refl wr).alloc _ _).drew)).mono ?_; rintro e w1 ⟨sl2, so2, rfl, he1, hr1⟩; have ho1 := he1.olds))
      have hEw : Ext wr w1 := (((Ext.refl wr).alloc _ _).drew).trans he1
      have hst := HF.out.step hEw (x := x.k) (d := x.v) (by rw [List.getElem?_map, HXJ.out]; rfl) (by rw [List.getElem?_map, HXJ.out]; rfl) (hr1.mono fun i hi => ⟨Nat.le_trans (by simp) hi.1, hi.2⟩)
      have hX := (HX.out.trans hEw).putM (b := w.heap.size) (Nat.le_refl _) (j * 7) x.k x.v sl2 so2
      have HST := Lib.hid hst
      clear hst
      go_wp2_with fail
      go_roundw
      case rel => exact ⟨j + 1, _, hlt, by go_num, hX, HST.out⟩
      case measure => simp [intOf]; omega
    · obtain rfl : j = xs.length := by omega
      have HF := Lib.hid hf
      clear hf
      go_wp2_with fail
      go_ret
      have hf := HF.out
      obtain ⟨xs', hxs, hlen⟩ : ∃ xs' : List LE, (∀ (j : Nat) (x : LE), xs'[j]? = some x → ∃ y : LE, xs[j]? = some y ∧ x = LE.mk y.k y.v (f j).1 (f j).2) ∧ xs'.length = xs.length ∧ xs'.map LE.ent = xs.map LE.ent := by
        refine ⟨xs.mapIdx fun j y => LE.mk y.k y.v (f j).1 (f j).2, fun j x hx => ?_, by simp, ?_⟩
        · rw [List.getElem?_mapIdx] at hx
          cases hy : xs[j]? with
          | none => rw [hy] at hx; cases hx
          | some y => rw [hy] at hx; exact ⟨y, rfl, by simpa using hx.symm⟩
        · apply List.ext_getElem?; intro j
          rw [List.getElem?_map, List.getElem?_mapIdx, List.getElem?_map]
          cases xs[j]? <;> rfl
      have hb : ∀ (j : Nat) (x : LE), xs'[j]? = some x → j < xs.length ∧ (xs.map LE.k)[j]? = some x.k ∧ (xs.map LE.v)[j]? = some x.v ∧ x.sl = (f j).1 ∧ x.so = (f j).2 := fun j x hx => by
        obtain ⟨y, hy, rfl⟩ := hxs j x hx
        exact ⟨(List.getElem?_eq_some_iff.1 hy).1, by rw [List.getElem?_map, hy]; rfl, by rw [List.getElem?_map, hy]; rfl, rfl, rfl⟩
      have hrow := hf.row
      rw [List.length_map, ← hlen.1] at hrow
      refine ⟨⟨some ⟨w.heap.size, 0, none⟩, xs'.length⟩, xs', by simp [hlen.1], hlen.2, OE.mk ?_ ?_ (by rw [hlen.1]; exact hfew), hx⟩
      · exact FillM.own hrow (fun j x hx => by
          obtain ⟨h1, h2, h3, h4, h5⟩ := hb j x hx
          rw [h4, h5]
          exact ⟨hf.keys j _ h1 h2, hf.cells j _ h1 h3⟩) (Nat.le_refl _) (by rw [hlen.1]; unfold maxLen; omega)
      · intro x hx
        obtain ⟨j, hj⟩ := List.getElem?_of_mem hx
        obtain ⟨h1, h2, h3, h4, h5⟩ := hb j x hj
        rw [h4, h5]
        refine ⟨(hf.reads j _ h1 h3).mono fun i hi => ⟨⟨by omega, hi.2⟩, by simp [Sl.row]; omega⟩, ?_⟩
        obtain ⟨y, hy, rfl⟩ := hxs j x hj
        exact (HS.out.vals y (List.mem_of_getElem? hy)).2
end Go.Proofs.Ytpapoalgocmlaaa
