/- value.Copy and node.copies: what they hand back lies in new memory and is the same. -/
import Derived.Test.YtpapoalgocmlaaaProg
import Derived.Test.YtpapoalgocmlaaaMem
namespace Go.Proofs.Ytpapoalgocmlaaa
open Go.RowKit

theorem Try.infoEntry : (Try.prog.info? 56).map (fun i => (i.zero, i.size, i.bytes)) = some (some (.agg #[.string ByteArray.empty, .int .i64 0, .bool false, .int .i64 0, .string ByteArray.empty, .slice none 0 0, .slice none 0 0]), 7, 104) := by kernel_rfl
theorem Try.infoMember : (Try.prog.info? 215).map (fun i => (i.zero, i.size, i.bytes)) = some (some (.agg #[.string ByteArray.empty, .int .i64 0, .bool false, .int .i64 0, .string ByteArray.empty, .slice none 0 0, .slice none 0 0]), 7, 104) := by kernel_rfl
theorem Try.infoValue : (Try.prog.info? 49).map (fun i => (i.zero, i.size, i.bytes)) = some (some (.agg #[.int .i64 0, .bool false, .int .i64 0, .string ByteArray.empty, .slice none 0 0, .slice none 0 0]), 6, 88) := by kernel_rfl

/-- A value as it stands in a slot. -/
abbrev aggV (d : Val) (sl so : Sl) : Value := .agg #[.int .i64 d.kind, .bool d.b, .int .i64 d.i, .string d.t, .slice sl.a d.l.length sl.c, .slice so.a d.ok.length so.c]

/-- What Copy hands back. -/
def CopyPost (d : Val) (w : World) (e : Ending) (w' : World) : Prop :=
  ∃ sl so, e = .returned (aggV d sl so) ∧ Ext w w' ∧ RV w' (In w.heap.size w'.heap.size) d sl so

/-- What stands behind the first loop: the copy's variable (block w + 2) has the kind and the rest, and the list's copy. -/
def MidL (d : Val) (sl so : Sl) (w wc : World) : Prop :=
  ∃ (sl1 : Sl) (B : Nat) (f : Nat → Sl × Sl), Ext w wc ∧ w.heap.size + 3 ≤ wc.heap.size ∧ Blk wc w.heap.size 49 #[.int .i64 d.kind, .bool d.b, .int .i64 d.i, .string d.t, .slice sl.a d.l.length sl.c, .slice so.a d.ok.length so.c] ∧
    (∃ cs, Blk wc (w.heap.size + 1) 49 cs ∧ cs.size = 6) ∧ Blk wc (w.heap.size + 1 + 1) 49 #[.int .i64 d.kind, .bool d.b, .int .i64 d.i, .string d.t, .slice sl1.a d.l.length sl1.c, .slice none 0 0] ∧
    SlAt (In (w.heap.size + 3) wc.heap.size) sl1 d.l.length B 0 ∧ RL wc (In (w.heap.size + 3) wc.heap.size) B 0 d.l f

/-- What stands behind the second one. -/
def MidO (d : Val) (sl1 : Sl) (B : Nat) (f : Nat → Sl × Sl) (w wc : World) : Prop :=
  ∃ (so1 : Sl) (C : Nat) (g : Nat → Sl × Sl), Ext w wc ∧ w.heap.size + 3 ≤ wc.heap.size ∧ (∃ cs, Blk wc (w.heap.size + 1) 49 cs ∧ cs.size = 6) ∧
    Blk wc (w.heap.size + 1 + 1) 49 #[.int .i64 d.kind, .bool d.b, .int .i64 d.i, .string d.t, .slice sl1.a d.l.length sl1.c, .slice so1.a d.ok.length so1.c] ∧
    SlAt (In (w.heap.size + 3) wc.heap.size) sl1 d.l.length B 0 ∧ RL wc (In (w.heap.size + 3) wc.heap.size) B 0 d.l f ∧
    SlAt (In (w.heap.size + 3) wc.heap.size) so1 d.ok.length C 0 ∧ RO wc (In (w.heap.size + 3) wc.heap.size) C 0 d.ok d.ov g

set_option maxRecDepth 100000 in
set_option maxHeartbeats 1000000 in
theorem copy_any (m : Nat) : ∀ (d : Val), SizeOf.sizeOf d ≤ m → ∀ (w : World) (sl so : Sl), RV w (Lt w.heap.size) d sl so → Calls Try.prog 127 #[aggV d sl so] w (CopyPost d w) := by
  induction m with
  | zero => intro d hd; have := Val.sz_pos d; omega
  | succ m ih =>
  intro d hd w sl so h
  have HI := Lib.hid ih
  clear ih
  obtain ⟨i0, hi, hz0, hz1, hz2⟩ := info_parts Try.infoValue
  obtain ⟨j0, hj, hy0, hy1, hy2⟩ := info_parts Try.infoMember
  obtain ⟨k, b, i, t, l, ok, ov⟩ := d
  show Calls _ _ #[.agg #[.int .i64 k, .bool b, .int .i64 i, .string t, .slice sl.a l.length sl.c, .slice so.a ok.length so.c]] _ _
  cases h with
  | mk bl fl bo fo cl co hl ho hov el rl ek eo ro bk bi bt nl no =>
  have hsl : ∀ (j : Nat) (d : Val), l[j]? = some d → SizeOf.sizeOf d ≤ m := fun j d hj => Nat.le_of_lt_succ (Nat.lt_of_lt_of_le (Val.sz_l hj) hd)
  have hso : ∀ (j : Nat) (d : Val), ov[j]? = some d → SizeOf.sizeOf d ≤ m := fun j d hj => Nat.le_of_lt_succ (Nat.lt_of_lt_of_le (Val.sz_o hj) hd)
  have HSL := Lib.hid hsl
  have HSO := Lib.hid hso
  have HEL := Lib.hid el
  have HRL := Lib.hid rl
  have HEK := Lib.hid ek
  have HEO := Lib.hid eo
  have HRO := Lib.hid ro
  have HOV := Lib.hid hov
  clear hsl hso el rl ek eo ro hov hd
  go_enter Try.func127, Try.ntmps127
  go_upto_if 14 with fail
  go_cut [] (fun wc => MidL (.mk k b i t l ok ov) sl so w wc)
  case first =>
    by_cases h0 : 0 < l.length
    · have hmk := fun W => run_make_rowN (P := Try.prog) 46 49 i0 _ Try.underlying46 hi hz0 .i64 .i64 l.length l.length (Nat.le_refl _) (by rw [hz2]; omega) (by omega) W
      obtain ⟨sa, sc⟩ := sl
      obtain ⟨rfl, hlc, hcm⟩ := hl.eq h0
      have hbl := hl.fits h0
      go_wp2_with fail
      clear hmk
      generalize hW0 : World.alloc _ _ = W0
      obtain ⟨hx0, hz0', hb0, hb1, hb2, hb3⟩ := four_blocks w _ _ _ _ _ _ _ _ W0 hW0
      have hfil := Filling.of hb3 (size_madeCells _ _)
      clear hW0 hb3
      go_loopw [23] (fun q wr => ∃ (j : Nat) (f : Nat → Sl × Sl), j ≤ l.length ∧ q = .int .i64 j ∧ Ext w wr ∧ FillV wr (w.heap.size + 1 + 1 + 1) 49 l j f ∧
          Blk wr w.heap.size 49 #[.int .i64 k, .bool b, .int .i64 i, .string t, .slice (some ⟨bl, fl, none⟩) l.length sc, .slice so.a ok.length so.c] ∧
          (∃ cs, Blk wr (w.heap.size + 1) 49 cs ∧ cs.size = 6) ∧ Blk wr (w.heap.size + 1 + 1) 49 #[.int .i64 k, .bool b, .int .i64 i, .string t, .slice (some ⟨w.heap.size + 1 + 1 + 1, 0, none⟩) l.length l.length, .slice none 0 0])
        (fun q _ => l.length - (intOf q).toNat)
      case atStart => exact ⟨0, fun _ => (Sl.none, Sl.none), Nat.zero_le _, rfl, hx0, FillV.start hfil _, hb0, ⟨_, hb1, rfl⟩, hb2⟩
      case round =>
        obtain ⟨j, f, hj, rfl, hx, hf, hb0, hb1, hb2⟩ := hrel
        by_cases hlt : j < l.length
        · obtain ⟨d, hd⟩ : ∃ d, l[j]? = some d := ⟨_, List.getElem?_eq_getElem hlt⟩
          have hag : Agree (Lt w.heap.size) w wr := hx.agree fun _ h => h
          obtain ⟨v0, v1, v2, v3, v4, v5⟩ := (HEL.out j d hd).agree hag hbl
          have hc4 := hb2.c6.2.2.2.2.1
          have hic : ∀ W, Ext wr W → Calls Try.prog 127 #[aggV d (cl j).1 (cl j).2] W (CopyPost d W) := fun W hW =>
            HI.out d (HSL.out j d hd) W _ _ (((HRL.out j d hd).agree (hag.trans (hW.agree fun _ h => Nat.lt_of_lt_of_le h hx.size))).mono fun i hi => Nat.lt_of_lt_of_le hi (Nat.le_trans hx.size hW.size))
          have HD := Lib.hid hd
          have HF := Lib.hid hf
          have HX := Lib.hid hx
          have HB0 := Lib.hid hb0
          have HB1 := Lib.hid hb1
          have HB2 := Lib.hid hb2
          have hb : w.heap.size + 1 + 1 + 1 < wr.heap.size := hf.row.lt
          have hbb : w.heap.size + 1 + 1 < wr.heap.size := by omega
          have hbc : w.heap.size + 1 < wr.heap.size := by omega
          have hne : ¬ w.heap.size + 1 + 1 + 1 = wr.heap.size := by omega
          obtain ⟨x0, hx0⟩ : ∃ v, wr.cell? ⟨w.heap.size + 1 + 1 + 1, j * 6, none⟩ = some v := hf.row.cell (by omega)
          obtain ⟨x1, hx1⟩ : ∃ v, wr.cell? ⟨w.heap.size + 1 + 1 + 1, j * 6 + 1, none⟩ = some v := hf.row.cell (by omega)
          obtain ⟨x2, hx2⟩ : ∃ v, wr.cell? ⟨w.heap.size + 1 + 1 + 1, j * 6 + 2, none⟩ = some v := hf.row.cell (by omega)
          obtain ⟨x3, hx3⟩ : ∃ v, wr.cell? ⟨w.heap.size + 1 + 1 + 1, j * 6 + 3, none⟩ = some v := hf.row.cell (by omega)
          obtain ⟨x4, hx4⟩ : ∃ v, wr.cell? ⟨w.heap.size + 1 + 1 + 1, j * 6 + 4, none⟩ = some v := hf.row.cell (by omega)
          obtain ⟨x5, hx5⟩ : ∃ v, wr.cell? ⟨w.heap.size + 1 + 1 + 1, j * 6 + 5, none⟩ = some v := hf.row.cell (by omega)
          have hff := hf.row.frozen
          clear hd hag hf hx hb0 hb1 hb2
          go_wp2_with fail
          go_region_held3 (fun w' => w'.cell? ⟨w.heap.size + 1 + 1, 4, none⟩ = some (.slice (some ⟨w.heap.size + 1 + 1 + 1, 0, none⟩) l.length l.length) ∧ w'.cell? ⟨wr.heap.size, 0, none⟩ = some (.int .i64 d.kind) ∧ w'.cell? ⟨wr.heap.size, 1, none⟩ = some (.bool d.b) ∧ w'.cell? ⟨wr.heap.size, 2, none⟩ = some (.int .i64 d.i) ∧ w'.cell? ⟨wr.heap.size, 3, none⟩ = some (.string d.t) ∧ w'.cell? ⟨wr.heap.size, 4, none⟩ = some (.slice (cl j).1.a d.l.length (cl j).1.c) ∧ w'.cell? ⟨wr.heap.size, 5, none⟩ = some (.slice (cl j).2.a d.ok.length (cl j).2.c)) (go_keep)
            ((go_at_call 127; refine (hic _ (((Ext.refl wr).alloc _ _).drew)).mono ?_; rintro e w1 ⟨sl, so, rfl, he1, hr1⟩; have ho1 := he1.olds))
          have hEw : Ext wr w1 := (((Ext.refl wr).alloc _ _).drew).trans he1
          have hst := HF.out.step hEw (HD.out) (hr1.mono fun i hi => ⟨Nat.le_trans (by simp) hi.1, hi.2⟩)
          have hB0 := (HB0.out.ext hEw).agree (putV_agree w1 (w.heap.size + 1 + 1 + 1) (j * 6) d sl so (F := fun b => b < w.heap.size + 1 + 1 + 1) (by omega)) (by omega)
          have hB2 := (HB2.out.ext hEw).agree (putV_agree w1 (w.heap.size + 1 + 1 + 1) (j * 6) d sl so (F := fun b => b < w.heap.size + 1 + 1 + 1) (by omega)) (by omega)
          have hB1 : ∃ cs, Blk (putV w1 (w.heap.size + 1 + 1 + 1) (j * 6) d sl so) (w.heap.size + 1) 49 cs ∧ cs.size = 6 := by
            obtain ⟨cs, h1, h2⟩ := HB1.out
            exact ⟨cs, (h1.ext hEw).agree (putV_agree w1 (w.heap.size + 1 + 1 + 1) (j * 6) d sl so (F := fun b => b < w.heap.size + 1 + 1 + 1) (by omega)) (by omega), h2⟩
          have hX := (HX.out.trans hEw).putV (b := w.heap.size + 1 + 1 + 1) (by omega) (j * 6) d sl so
          have HST := Lib.hid hst
          clear hst
          go_wp2_with fail
          go_roundw
          case rel => exact ⟨j + 1, _, hlt, by go_num, hX, HST.out, hB0, hB1, hB2⟩
          case measure => simp [intOf]; omega
        · obtain rfl : j = l.length := by omega
          have hz := hf.row.lt
          have hrl := hf.done (n := w.heap.size + 3) (by omega)
          have H : MidL (.mk k b i t l ok ov) ⟨some ⟨bl, fl, none⟩, sc⟩ so w wr :=
            ⟨⟨some ⟨w.heap.size + 1 + 1 + 1, 0, none⟩, l.length⟩, w.heap.size + 1 + 1 + 1, f, hx, by omega, hb0, hb1, hb2, .some _ _ _ _ (Nat.le_refl _) (by unfold maxLen; omega) ⟨by omega, hz⟩, hrl⟩
          clear hrl hb0 hb1 hb2 hf hx
          go_wp2_with fail
          go_meet
          case rel => exact H
    · obtain rfl : l = [] := List.eq_nil_of_length_eq_zero (by omega)
      have hh : decide ((0 : Int) < 0) = false := rfl
      go_wp2_with fail
      generalize hW3 : World.alloc _ _ = W3
      obtain ⟨hx3, hz3, hb0, hb1, hb2⟩ := three_blocks w _ _ _ _ _ _ W3 hW3
      clear hW3
      go_meet
      case rel => exact ⟨Sl.none, 0, fun _ => (Sl.none, Sl.none), hx3, by omega, hb0, ⟨_, hb1, rfl⟩, hb2, .nil _ _, RL.nil _ _ _ _ _⟩
  case rest =>
    obtain ⟨sl1, B, f, hx, hz, hb0, hb1, hb2, hsa, hrl⟩ := hcut
    clear hl HSL HEL HRL
    obtain ⟨-, -, -, -, -, p5⟩ := hb0.c6
    dsimp only [Val.l, Val.ok, Val.ov] at *
    go_upto_if 38 with fail
    go_cut [] (fun wc => MidO (.mk k b i t l ok ov) sl1 B f w wc)
    case first =>
      by_cases h0 : 0 < ok.length
      · have hmk := fun W => run_make_rowN (P := Try.prog) 47 215 j0 _ Try.underlying47 hj hy0 .i64 .i64 ok.length ok.length (Nat.le_refl _) (by rw [hy2]; omega) (by omega) W
        obtain ⟨sa, sc⟩ := so
        obtain ⟨rfl, hlc, hcm⟩ := ho.eq h0
        have hbo := ho.fits h0
        have q5 := hb2.cell 5
        have qf := hb2.frozen 5
        have qlt : w.heap.size < wc.heap.size := by omega
        have qlt2 := hb2.lt
        simp at q5
        go_wp2_with fail
        clear hmk q5 qf
        generalize hW0 : World.alloc (World.setCell _ _ _) _ = W0
        have hx0 : Ext w W0 := by rw [← hW0]; exact (hx.setCell (p := ⟨w.heap.size + 1 + 1, 5, none⟩) (show w.heap.size ≤ w.heap.size + 1 + 1 by omega) _).alloc _ _
        have hz0' : W0.heap.size = wc.heap.size + 1 := by rw [← hW0]; simp
        have hc0 : Blk W0 w.heap.size 49 #[.int .i64 k, .bool b, .int .i64 i, .string t, .slice sl.a l.length sl.c, .slice (some ⟨bo, fo, none⟩) ok.length sc] := by rw [← hW0]; exact (hb0.far (show w.heap.size ≠ w.heap.size + 1 + 1 by omega) _).alloc _
        have hc1 : ∃ cs, Blk W0 (w.heap.size + 1) 49 cs ∧ cs.size = 6 := by
          obtain ⟨cs, h1, h2⟩ := hb1
          rw [← hW0]; exact ⟨cs, (h1.far (show w.heap.size + 1 ≠ w.heap.size + 1 + 1 by omega) _).alloc _, h2⟩
        have hc2 : Blk W0 (w.heap.size + 1 + 1) 49 #[.int .i64 k, .bool b, .int .i64 i, .string t, .slice sl1.a l.length sl1.c, .slice (some ⟨wc.heap.size, 0, none⟩) ok.length ok.length] := by
          rw [← hW0]; exact (hb2.set_ 5 _).alloc _
        have hfil : Filling W0 wc.heap.size 215 7 ok.length := by
          have h := Filling.made (w := wc.setCell ⟨w.heap.size + 1 + 1, 5, none⟩ (.slice (some ⟨wc.heap.size, 0, none⟩) ok.length ok.length)) (t := 215) (madeCells #[.string ByteArray.empty, .int .i64 0, .bool false, .int .i64 0, .string ByteArray.empty, .slice none 0 0, .slice none 0 0] (ok.length * 7)) (size_madeCells _ _)
          rw [World.size_setCell] at h
          rw [← hW0]; exact h
        have hag0 : Agree (In (w.heap.size + 3) wc.heap.size) wc W0 := by
          rw [← hW0]; exact (Agree.setCell wc ⟨w.heap.size + 1 + 1, 5, none⟩ _ (show ¬ (w.heap.size + 3 ≤ w.heap.size + 1 + 1 ∧ w.heap.size + 1 + 1 < wc.heap.size) by omega)).trans (Agree.alloc _ _ (fun b hb => by rw [World.size_setCell]; exact hb.2))
        have hrl0 := hrl.agree hag0 hsa.fits
        clear hrl hb0 hb1 hb2 hx hag0 hW0
        go_loopw [47] (fun q wr => ∃ (j : Nat) (g : Nat → Sl × Sl), j ≤ ok.length ∧ q = .int .i64 j ∧ Ext w wr ∧ FillM wr wc.heap.size 215 ok ov j g ∧
            Blk wr w.heap.size 49 #[.int .i64 k, .bool b, .int .i64 i, .string t, .slice sl.a l.length sl.c, .slice (some ⟨bo, fo, none⟩) ok.length sc] ∧
            (∃ cs, Blk wr (w.heap.size + 1) 49 cs ∧ cs.size = 6) ∧ Blk wr (w.heap.size + 1 + 1) 49 #[.int .i64 k, .bool b, .int .i64 i, .string t, .slice sl1.a l.length sl1.c, .slice (some ⟨wc.heap.size, 0, none⟩) ok.length ok.length] ∧
            RL wr (In (w.heap.size + 3) wc.heap.size) B 0 l f)
          (fun q _ => ok.length - (intOf q).toNat)
        case atStart => exact ⟨0, fun _ => (Sl.none, Sl.none), Nat.zero_le _, rfl, hx0, FillM.start hfil _, hc0, hc1, hc2, hrl0⟩
        case round =>
          clear hx0 hz0' hc0 hc1 hc2 hfil hrl0 W0
          obtain ⟨j, g, hj, rfl, hx, hf, hb0, hb1, hb2, hrl⟩ := hrel
          have hbw : wc.heap.size < wr.heap.size := hf.row.lt
          by_cases hlt : j < ok.length
          · obtain ⟨x, hxk⟩ : ∃ x, ok[j]? = some x := ⟨_, List.getElem?_eq_getElem hlt⟩
            obtain ⟨d, hd⟩ : ∃ d, ov[j]? = some d := ⟨_, List.getElem?_eq_getElem (by rw [HOV.out]; exact hlt)⟩
            have hag : Agree (Lt w.heap.size) w wr := hx.agree fun _ h => h
            obtain ⟨v0, v1, v2, v3, v4, v5⟩ := ((HEO.out j d hd).agree hag hbo).m
            have vk := (hag.cell hbo).trans (HEK.out j x hxk).1
            have hc5 := hb2.c6.2.2.2.2.2
            have hic : ∀ W, Ext wr W → Calls Try.prog 127 #[aggV d (co j).1 (co j).2] W (CopyPost d W) := fun W hW =>
              HI.out d (HSO.out j d hd) W _ _ (((HRO.out j d hd).agree (hag.trans (hW.agree fun _ h => Nat.lt_of_lt_of_le h hx.size))).mono fun i hi => Nat.lt_of_lt_of_le hi (Nat.le_trans hx.size hW.size))
            have HD := Lib.hid hd
            have HK := Lib.hid hxk
            have HF := Lib.hid hf
            have HX := Lib.hid hx
            have HB0 := Lib.hid hb0
            have HB1 := Lib.hid hb1
            have HB2 := Lib.hid hb2
            have HRL := Lib.hid hrl
            have HSA := Lib.hid hsa
            have hbb : w.heap.size + 1 + 1 < wr.heap.size := by omega
            have hbc : w.heap.size + 1 < wr.heap.size := by omega
            have hne : ¬ wc.heap.size = wr.heap.size := by omega
            have hne2 : ¬ wc.heap.size = w.heap.size + 1 + 1 := by omega
            obtain ⟨x0, hx0⟩ : ∃ v, wr.cell? ⟨wc.heap.size, j * 7, none⟩ = some v := hf.row.cell (by omega)
            obtain ⟨x1, hx1⟩ : ∃ v, wr.cell? ⟨wc.heap.size, j * 7 + 1, none⟩ = some v := hf.row.cell (by omega)
            obtain ⟨x2, hx2⟩ : ∃ v, wr.cell? ⟨wc.heap.size, j * 7 + 2, none⟩ = some v := hf.row.cell (by omega)
            obtain ⟨x3, hx3⟩ : ∃ v, wr.cell? ⟨wc.heap.size, j * 7 + 3, none⟩ = some v := hf.row.cell (by omega)
            obtain ⟨x4, hx4⟩ : ∃ v, wr.cell? ⟨wc.heap.size, j * 7 + 4, none⟩ = some v := hf.row.cell (by omega)
            obtain ⟨x5, hx5⟩ : ∃ v, wr.cell? ⟨wc.heap.size, j * 7 + 5, none⟩ = some v := hf.row.cell (by omega)
            obtain ⟨x6, hx6⟩ : ∃ v, wr.cell? ⟨wc.heap.size, j * 7 + 6, none⟩ = some v := hf.row.cell (by omega)
            have hff := hf.row.frozen
            clear hd hxk hag hf hx hb0 hb1 hb2 hrl hsa
            go_wp2_with fail
            go_region_held3 (fun w' => w'.cell? ⟨w.heap.size + 1 + 1, 5, none⟩ = some (.slice (some ⟨wc.heap.size, 0, none⟩) ok.length ok.length) ∧ w'.cell? ⟨wr.heap.size, 0, none⟩ = some (.string x) ∧ w'.cell? ⟨wr.heap.size, 1, none⟩ = some (.int .i64 d.kind) ∧ w'.cell? ⟨wr.heap.size, 2, none⟩ = some (.bool d.b) ∧ w'.cell? ⟨wr.heap.size, 3, none⟩ = some (.int .i64 d.i) ∧ w'.cell? ⟨wr.heap.size, 4, none⟩ = some (.string d.t) ∧ w'.cell? ⟨wr.heap.size, 5, none⟩ = some (.slice (co j).1.a d.l.length (co j).1.c) ∧ w'.cell? ⟨wr.heap.size, 6, none⟩ = some (.slice (co j).2.a d.ok.length (co j).2.c)) (go_keep)
              ((go_at_call 127; refine (hic _ (((Ext.refl wr).alloc _ _).drew)).mono ?_; rintro e w1 ⟨sl2, so2, rfl, he1, hr1⟩; have ho1 := he1.olds))
            have hEw : Ext wr w1 := (((Ext.refl wr).alloc _ _).drew).trans he1
            have hP : ∀ F : Nat → Prop, ¬ F wc.heap.size → Agree F w1 (putM w1 wc.heap.size (j * 7) x d sl2 so2) := fun F hF => putM_agree _ _ _ _ _ _ _ hF
            have hst := HF.out.step hEw HK.out HD.out (hr1.mono fun i hi => ⟨Nat.le_trans (by simp) hi.1, hi.2⟩)
            have hB0 := (HB0.out.ext hEw).agree (hP (fun b => b < wc.heap.size) (by omega)) (by omega)
            have hB2 := (HB2.out.ext hEw).agree (hP (fun b => b < wc.heap.size) (by omega)) (by omega)
            have hB1 : ∃ cs, Blk (putM w1 wc.heap.size (j * 7) x d sl2 so2) (w.heap.size + 1) 49 cs ∧ cs.size = 6 := by
              obtain ⟨cs, h1, h2⟩ := HB1.out
              exact ⟨cs, (h1.ext hEw).agree (hP (fun b => b < wc.heap.size) (by omega)) (by omega), h2⟩
            have hX := (HX.out.trans hEw).putM (b := wc.heap.size) (by omega) (j * 7) x d sl2 so2
            have hR := (HRL.out.agree (hEw.agree (F := In (w.heap.size + 3) wc.heap.size) (by omega)) HSA.out.fits).agree (hP (In (w.heap.size + 3) wc.heap.size) (by omega)) HSA.out.fits
            have HST := Lib.hid hst
            have HR := Lib.hid hR
            clear hst hP hR
            go_wp2_with fail
            go_roundw
            case rel => exact ⟨j + 1, _, hlt, by go_num, hX, HST.out, hB0, hB1, hB2, HR.out⟩
            case measure => simp [intOf]; omega
          · obtain rfl : j = ok.length := by omega
            have hro := hf.done HOV.out (fun j x hx => (HEK.out j x hx).2) (n := w.heap.size + 3) hz
            have H : MidO (.mk k b i t l ok ov) sl1 B f w wr :=
              ⟨⟨some ⟨wc.heap.size, 0, none⟩, ok.length⟩, wc.heap.size, g, hx, by omega, hb1, hb2, hsa.mono (fun i hi => ⟨hi.1, by have := hi.2; omega⟩), hrl.mono (fun i hi => ⟨hi.1, by have := hi.2; omega⟩),
                .some _ _ _ _ (Nat.le_refl _) (by unfold maxLen; omega) ⟨hz, hbw⟩, hro⟩
            clear hro hrl hb0 hb1 hb2 hf hx
            go_wp2_with fail
            go_meet
            case rel => exact H
      · obtain rfl : ok = [] := List.eq_nil_of_length_eq_zero (by omega)
        have hh : decide ((0 : Int) < 0) = false := rfl
        obtain rfl : ov = [] := List.eq_nil_of_length_eq_zero HOV.out
        have H : MidO (.mk k b i t l [] []) sl1 B f w wc :=
          ⟨Sl.none, 0, fun _ => (Sl.none, Sl.none), hx, by omega, hb1, hb2, hsa, hrl, .nil _ _, RO.nil _ _ _ _ _⟩
        clear hrl hb0 hb1 hb2 hx hsa
        go_wp2_with fail
        go_meet
        case rel => exact H
    case rest =>
      clear hx hz hb0 hb1 hb2 hsa hrl ho HSO HEK HEO HRO HI p5
      rename_i wd
      obtain ⟨so1, C, g, hx, hz, ⟨cs, hb1, hcs⟩, hb2, hsa, hrl, hsb, hro⟩ := hcut
      dsimp only [Val.kind, Val.b, Val.i, Val.t, Val.l, Val.ok, Val.ov] at *
      obtain ⟨p0, p1, p2, p3, p4, p5⟩ := hb2.c6
      obtain ⟨a0, a1, a2, a3, a4, a5, rfl⟩ := six_of hcs
      obtain ⟨q0, q1, q2, q3, q4, q5⟩ := hb1.c6
      have qf := hb1.frozen
      have HX := Lib.hid hx
      have H1 := Lib.hid hb1
      have HRL := Lib.hid hrl
      have HSA := Lib.hid hsa
      have HRO := Lib.hid hro
      have HSB := Lib.hid hsb
      clear hx hb1 hb2 hrl hsa hro hsb
      go_wp2_with fail
      have hF : ∀ F : Nat → Prop, ¬ F (w.heap.size + 1) → Agree F wc (putV wc (w.heap.size + 1) 0 (.mk k b i t l ok ov) sl1 so1) := fun F h => putV_agree _ _ _ _ _ _ h
      refine bodyPost_ret (v := .agg #[.int .i64 k, .bool b, .int .i64 i, .string t, .slice sl1.a l.length sl1.c, .slice so1.a ok.length so1.c]) (by simp [results, Try.results127, go_sem, q0, q1, q2, q3, q4, q5]) rfl ?_
      refine ⟨sl1, so1, rfl, HX.out.putV (b := w.heap.size + 1) (by omega) 0 (.mk k b i t l ok ov) sl1 so1, ?_⟩
      have hz' : (putV wc (w.heap.size + 1) 0 (.mk k b i t l ok ov) sl1 so1).heap.size = wc.heap.size := putV_size _ _ _ _ _ _
      have r1 := HRL.out.agree (hF (In (w.heap.size + 3) wc.heap.size) (by omega)) HSA.out.fits
      have r2 := HRO.out.agree (hF (In (w.heap.size + 3) wc.heap.size) (by omega)) HOV.out HSB.out.fits
      have r3 : RV (putV wc (w.heap.size + 1) 0 (.mk k b i t l ok ov) sl1 so1) (In (w.heap.size + 3) wc.heap.size) (.mk k b i t l ok ov) sl1 so1 := RV.of HSA.out HSB.out HOV.out r1 r2 bk bi bt nl no
      show RV (putV wc (w.heap.size + 1) 0 (.mk k b i t l ok ov) sl1 so1) (In w.heap.size (putV wc (w.heap.size + 1) 0 (.mk k b i t l ok ov) sl1 so1).heap.size) _ _ _
      rw [hz']
      exact r3.mono fun i hi => ⟨by omega, hi.2⟩
end Go.Proofs.Ytpapoalgocmlaaa
