/- law07.letters, law07.known: the chapter's row. -/
import Derived.Test.YtpapoalgocmlaaaBuild
import Derived.Test.YtpapoalgocmlaaaShape
import Derived.Laws.IdiomStrings
import Derived.WalkArith
namespace Go.Proofs.Ytpapoalgocmlaaa
open Go.RowKit
set_option linter.unusedVariables false
set_option linter.unusedSimpArgs false

def letterL (i : Nat) : LE := ⟨(letterE i).1, (letterE i).2, Sl.none, Sl.none⟩
def lettersL (n : Nat) : List LE := (List.range n).map letterL
theorem lettersL_ent (n : Nat) : (lettersL n).map LE.ent = lettersE n := by simp [lettersL, lettersE, letterL, LE.ent]
def LettersPost (n : Nat) (w : World) (e : Ending) (w' : World) : Prop := ∃ s, e = .returned (.slice s.a n s.c) ∧ OE w' w.heap.size s (lettersL n) ∧ Ext w w'

set_option maxRecDepth 100000 in
set_option maxHeartbeats 1000000 in
theorem letters_any (w : World) (n : Nat) (hn : n ≤ 26) : Calls Try.prog 95 #[.int .i64 n] w (LettersPost n w) := by
  obtain ⟨i0, hi, hz0, hz1, hz2⟩ := info_parts Try.infoEntry
  go_enter Try.func95, Try.ntmps95
  go_wp2_with fail
  go_loopw [3, 4] (fun v i wr => ∃ (j : Nat) (s : Sl), j ≤ n ∧ i = .int .i64 j ∧ v = .slice s.a j s.c ∧ Ext w wr ∧ OE wr w.heap.size s (lettersL j)) (fun _ i _ => n - (intOf i).toNat)
  case atStart => exact ⟨0, Sl.none, Nat.zero_le _, rfl, rfl, Ext.refl _, OE.nil _ _⟩
  case round =>
    obtain ⟨j, s, hj, rfl, rfl, hx, ho⟩ := hrel
    have HX := Lib.hid hx
    have HO := Lib.hid ho
    clear hx ho
    by_cases hlt : j < n
    · have hjn : (j : Int) < (n : Int) := by omega
      have hj26 : (j : Int) < 26 := by omega
      have hcv : (convert 211 9 (.slice (some ⟨wr.heap.size, 0, none⟩) 1 1)).run Try.prog (wr.alloc (.cells #[.int .u8 (97 + (j : Int))] 5)) = .ok (.string (letterE j).1) (wr.alloc (.cells #[.int .u8 (97 + (j : Int))] 5)) :=
        run_convert_bytes_back (P := Try.prog) _ 211 9 5 ⟨wr.heap.size, 0, none⟩ 1 [UInt8.ofNat (97 + j)] Try.underlying211 Try.underlying5 Try.underlying9 (fun i hi => by
          obtain rfl : i = 0 := by simpa using hi
          rw [add_at, Nat.zero_add, (Blk.new wr 5 #[.int .u8 (97 + (j : Int))]).cell]
          have : (UInt8.ofNat (97 + j)).toNat = 97 + j := by rw [UInt8.toNat_ofNat']; omega
          show some (Value.int .u8 (97 + (j : Int))) = some (.int .u8 ((UInt8.ofNat (97 + j)).toNat : Int))
          rw [this]; simp)
      have h63 : j + 1 ≤ maxLen := by unfold maxLen; omega
      have hby : (j + 1) * 104 ≤ 140737488355328 := by omega
      have hll : (lettersL j).length = j := by simp [lettersL]
      have hown : ∀ W, Ext wr W → W.ownsRow w.heap.size 56 7 (.slice s.a j s.c) j (flatE (lettersL j)) := fun W hW => by have := (HO.out.ext hW).own; rwa [hll] at this
      have HOWN := Lib.hid hown
      have HLL := Lib.hid hll
      have hbs := HX.out.size
      clear hown hll
      go_wp2_with (at_builtin; refine wpList_append_x _ rfl (.tmp 14) (.tmp 23) 53 rfl w.heap.size 56 i0 _ 7 104 Try.underlying53 hi hz0 hz1 hz2 rfl (by decide) s j (flatE (lettersL j)) rfl (HOWN.out _ (((Ext.refl wr).alloc _ _).alloc _ _)) (fun b => b = wr.heap.size + 1) ⟨some ⟨wr.heap.size + 1, 0, none⟩, 1⟩ 1 (LE.cells (letterL j)) rfl (by
          have h := Blk.new (wr.alloc (.cells #[.int .u8 (97 + (j : Int))] 5)) 56 (LE.cells (letterL j)).toArray
          rw [World.size_alloc] at h
          exact Rd.block h (by decide) rfl) (LE.one _) h63 hby (by rw [World.size_alloc, World.size_alloc]; omega) ?_; intro s3 w3 hown3 hwr3 hs3)
      have hXa : Ext wr ((wr.alloc (.cells #[.int .u8 (97 + (j : Int))] 5)).alloc (.cells (LE.cells (letterL j)).toArray 56)) := ((Ext.refl wr).alloc _ _).alloc _ _
      have hoa := HO.out.ext hXa
      have hs2 : s3.row = s.row ∨ ∃ b, s3.row = some b ∧ ((wr.alloc (.cells #[.int .u8 (97 + (j : Int))] 5)).alloc (.cells (LE.cells (letterL j)).toArray 56)).heap.size ≤ b := by
        rcases hs3 with h | ⟨h, -⟩
        · exact .inl (by simp [Sl.row, h])
        · refine .inr ⟨_, ?_, Nat.le_refl _⟩
          simp [Sl.row, h]
      have ho3 : OE w3 w.heap.size s3 (lettersL j ++ [letterL j]) := OE.append (F := fun _ => False) hoa (fun x hx => by
        obtain rfl := List.mem_singleton.1 hx
        exact ⟨RV.flat _ _ _ _ _ _ (by decide) (by
          exact WalkArith.wf_i64 ⟨by omega, by omega⟩) (by decide), by show (letterE j).1.size ≤ maxLen; exact (by decide : (1 : Nat) ≤ maxLen)⟩) (fun b hb => hb.elim) (by rw [HLL.out]; exact hby) (by rw [HLL.out]; exact hown3) hwr3 hs2
      have hE := (HX.out.trans hXa).wr hwr3 (fun i hi => (own_row HO.out.own hi).1)
      have HE := Lib.hid hE
      have HO3 := Lib.hid ho3
      clear hXa hoa hs2 ho3 hE hs3 hwr3 hown3 hcv
      go_roundw
      case rel => exact ⟨j + 1, s3, hlt, by go_num, rfl, HE.out, by rw [show lettersL (j + 1) = lettersL j ++ [letterL j] from by simp [lettersL, List.range_succ]]; exact HO3.out⟩
      case measure => simp [intOf]; omega
    · have hjn : ¬ (j : Int) < (n : Int) := by omega
      obtain rfl : j = n := by omega
      go_wp2_with fail
      go_ret
      exact ⟨s, rfl, HO.out, HX.out⟩
def Nine (w : World) (e : Ending) (w' : World) : Prop := ∃ s, e = .returned (.slice s.a 9 s.c) ∧ ES w' (Lt w'.heap.size) s (lettersL 9) ∧ Ext w w'
theorem letters_nine (w : World) : Calls Try.prog 95 #[.int .i64 9] w (Nine w) :=
  (letters_any w 9 (by decide)).mono fun e w' ⟨s, h1, h2, h3⟩ => ⟨s, h1, h2.es.mono fun b hb => hb.2, h3⟩
/-- What Build makes of nine letters. -/
def BuildNine (w : World) (e : Ending) (w' : World) : Prop := ∃ (c : PT 1) (x y : PT 0), e = .returned (.agg #[.pointer (some ⟨addr 1 c, 0, none⟩)]) ∧ c.2 = [x, y] ∧ x.2.length = 4 ∧ y.2.length = 5 ∧ OkT 1 c ∧ (ents 1 c).length = 9 ∧ IsN w' (Lt w'.heap.size) 1 c ∧ Ext w w'
theorem build_nine {w : World} {s : Sl} (hs : ES w (Lt w.heap.size) s (lettersL 9)) : Calls Try.prog 63 #[.slice s.a 9 s.c] w (BuildNine w) := by
  have h := build_any hs (by decide)
  refine h.mono ?_
  rintro e w' ⟨T, rfl, hB, hT, hx⟩
  rw [lettersL_ent] at hB
  obtain ⟨c, x, y, rfl, h1, h2, h3⟩ := built_nine hB (lettersE_sorted 9 (by decide)) rfl
  exact ⟨c, x, y, rfl, h1, h2, h3, hB.both.1.1, by
    show (c.2.flatMap (ents 0)).length = 9
    rw [h1]
    show (x.2 ++ (y.2 ++ [])).length = 9
    simp [h2, h3], hT.mono fun b hb => hb.2, hx⟩

set_option maxRecDepth 100000 in
set_option maxHeartbeats 1000000 in
theorem known07 (w : World) : Calls Try.prog 39 #[] w fun e w' => e = .returned (.bool true) ∧ Ext w w' := by
  go_enter Try.func39, Try.ntmps39
  go_wp2_with fail
  refine (letters_nine w).mono ?_
  rintro e w1 ⟨s, rfl, hs, hx1⟩
  go_wp2_with fail
  refine (build_nine hs).mono ?_
  rintro e w2 ⟨c, x, y, rfl, hc, hx, hy, ok, hl, hN, hx2⟩
  have hX2 := hx1.trans hx2
  have HX2 := Lib.hid hX2
  have hb2 := Blk.new w2 30 #[.pointer (some ⟨addr 1 c, 0, none⟩)]
  have hE2 : Ext w2 (w2.alloc (.cells #[.pointer (some ⟨addr 1 c, 0, none⟩)] 30)) := (Ext.refl _).alloc _ _
  have HN := Lib.hid hN
  have HC := Lib.hid hc
  have HXX := Lib.hid hx
  have HYY := Lib.hid hy
  have HOK := Lib.hid ok
  have HL := Lib.hid hl
  clear hs hx1 hx2 hX2 hN hc hx hy ok hl
  go_wp2_with fail
  generalize w2.alloc (.cells #[.pointer (some ⟨addr 1 c, 0, none⟩)] 30) = W0 at *
  have HE2 := Lib.hid hE2
  have c0 : W0.cell? ⟨w2.heap.size, 0, none⟩ = some (.pointer (some ⟨addr 1 c, 0, none⟩)) := hb2.cell 0
  have l0 := hb2.lt
  clear hb2 hE2
  refine (treeRoot_any W0 _).mono ?_
  rintro e w3 ⟨rfl, hx3⟩
  have c1 := (hx3.cell (o := 0) l0).trans c0
  have l1 := Nat.lt_of_lt_of_le l0 hx3.size
  have hT3 : IsT w3 (Lt w3.heap.size) (some ⟨1, c⟩) := HN.out.ext (HE2.out.trans hx3)
  have hlen := treeLen_any (fun b hb => hb) hT3
  rw [show entsT (some ⟨1, c⟩) = ents 1 c from rfl, HL.out] at hlen
  have hlen : Calls Try.prog 78 #[.agg #[.pointer (some ⟨addr 1 c, 0, none⟩)]] w3 fun e w' => e = .returned (.int .i64 9) ∧ Ext w3 w' := hlen
  have HX3 := Lib.hid (HE2.out.trans hx3)
  clear hx3 hT3 c0 l0
  go_wp2_with fail
  refine hlen.mono ?_
  rintro e w4 ⟨rfl, hx4⟩
  have c2 := (hx4.cell (o := 0) l1).trans c1
  have l2 := Nat.lt_of_lt_of_le l1 hx4.size
  have HX4 := Lib.hid (HX3.out.trans hx4)
  clear hx4 c1 l1 hlen
  go_wp2_with fail
  refine (treeRoot_any w4 _).mono ?_
  rintro e w5 ⟨rfl, hx5⟩
  have hX5 := HX4.out.trans hx5
  have hsh := shape_any 1 c w5 (HN.out.ext hX5) HOK.out
  have HX5 := Lib.hid hX5
  have e1 : shOf 1 c = .mk [] [.mk x.2 [], .mk y.2 []] := by
    show Sh.mk [] (c.2.map (shOf 0)) = _
    rw [HC.out]; rfl
  rw [e1] at hsh
  have HSH := Lib.hid hsh
  clear hx5 hX5 c2 l2 e1 hsh
  go_wp2_with fail
  have hsh : Calls Try.prog 75 #[.pointer (some ⟨addr 1 c, 0, none⟩)] w5 (ShapePost (.mk [] [.mk x.2 [], .mk y.2 []]) w5) := HSH.out
  refine hsh.mono ?_
  rintro e w6 ⟨se, sk, rfl, hx6, hr6⟩
  obtain ⟨b, o, s1, s2, ha, hb, hlc, hcm, hsc, -⟩ := hr6.kid (j := 0) (k := .mk x.2 []) rfl
  obtain ⟨b', o', s1', s2', ha', -, -, -, hsc', -⟩ := hr6.kid (j := 1) (k := .mk y.2 []) rfl
  obtain ⟨sa, sc⟩ := sk
  dsimp only at ha ha'
  subst ha
  obtain ⟨rfl, rfl⟩ : b = b' ∧ o = o' := by simpa using ha'
  have k0 : w6.cell? ⟨b, o, none⟩ = some (.slice s1.a 4 s1.c) := by have := hsc.c0; simp only [Sh.es, HXX.out, Nat.zero_mul, Nat.add_zero] at this; exact this
  have k1 : w6.cell? ⟨b, o + 2, none⟩ = some (.slice s1'.a 5 s1'.c) := by have := hsc'.c0; simp only [Sh.es, HYY.out, Nat.one_mul] at this; exact this
  have hbl : b < w6.heap.size := hb.2
  have HX6 := Lib.hid (HX5.out.trans hx6)
  have hcm' : (2 : Nat) ≤ sc := hlc
  clear hsh hx6 hr6 hsc hsc' ha'
  go_wp2_with fail
  go_ret
  exact ⟨rfl, (HX2.out.trans HX6.out).alloc _ _⟩
end Go.Proofs.Ytpapoalgocmlaaa
