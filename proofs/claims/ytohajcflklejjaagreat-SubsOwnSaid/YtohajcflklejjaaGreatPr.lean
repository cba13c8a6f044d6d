/- What the theorems need beyond the groups: no condition of its own. -/
import Derived.WalkKit
import Derived.WalkLawsBesides
import Derived.WalkSpells
import Derived.Outline
import Derived.Deep.RegionHeld3
import Derived.Deep.DeepFit
import Derived.Deep.DeepCutAuto
import Derived.Deep.QuietTactic
import Derived.BigQuiet
import Derived.Lib.Hide
import Derived.Shelf.Abstract
import Derived.Lib.Overlaps
import Derived.Deep.RegionLaw
import Derived.Lib.AppendZerosOnto
import Derived.Deep.RegionWith
import Derived.Laws.IdiomStrings
import Derived.WalkArith
import Derived.RangeFuncNested
import Derived.RangeFuncBound
import Derived.RangeFuncCalls
import Derived.RangeFuncLeaves
import Derived.OwnWalkIn
import Derived.OrdersIn
import Derived.Lib.SliceRun
import Derived.Shelf.RegionOpen
import Derived.TacticsInMore
import Derived.LoopNIn
import Derived.LoopIn
import Derived.ChangeArms
import Derived.DataReads
import Derived.Handed
import Derived.ChangeShapes
import Derived.WideShapes
import Derived.WideKeyArgs
import Derived.ChangeOld
import Derived.ProofKit
import Derived.OpenShut
import Derived.WalkMore
import Derived.Lib.Bytealg
import Derived.Sort.LoopGhostIn
import Derived.Maps.OwnSet
import Derived.Maps.OwnIn
import Derived.Sort.MapsRangeIn
import Derived.Sort.LotA
import Derived.Sort.WalkA
import Derived.Sort.KeysCollected
import Derived.RegionIn
import Derived.Sort.CutIn
import Derived.Test.YtohajcflklejjaaGreatPqa
import Derived.Test.YtohajcflklejjaaGreatPqb
import Derived.Test.YtohajcflklejjaaGreatPqc
import Derived.Test.YtohajcflklejjaaGreatPqd
import Derived.Test.YtohajcflklejjaaGreatPqe
import Derived.Test.YtohajcflklejjaaGreatPqf
import Derived.Test.YtohajcflklejjaaGreatPqg
import Derived.Test.YtohajcflklejjaaGreatPqh
import Derived.Test.YtohajcflklejjaaGreatPqi
import Derived.Test.YtohajcflklejjaaGreatPqj
namespace Go.Proofs.YtohajcflklejjaaGreat
open Go.RowKit
theorem clone_nil (w : World) : Calls Tryz.prog 105 #[.slice none 0 0] w fun e w' => e = .returned (.slice none 0 0) ∧ w = w' := by
  have he := fun w' => Lib.run_eql_slice_nil (P := Tryz.prog) w' 141 31 none 0 0 0 0 Tryz.underlying141
  go_enter Tryz.func105, Tryz.ntmps105
  go_wp2_with fail
  go_ret
  exact ⟨rfl, rfl⟩
theorem kids_leaf {w : World} {F : Nat → Prop} {t : PT 0} (hn : IsN w F 0 t) : Calls Tryz.prog 76 #[ptr 0 t] w fun e w' => e = .returned (.slice none 0 0) ∧ w = w' := by
  obtain ⟨-, s, xs, hb, -, -⟩ := hn
  have h1 : w.cell? ⟨addr 0 t, 1, none⟩ = some (.slice none 0 0) := hb.c7.2.1
  have hc := clone_nil w
  clear hb
  go_enter Tryz.func76, Tryz.ntmps76
  go_wp2_with fail
  refine hc.mono ?_
  rintro e w' ⟨rfl, rfl⟩
  go_wp2_with fail
  go_ret
  exact ⟨rfl, rfl⟩
end Go.Proofs.YtohajcflklejjaaGreat
namespace Go.Proofs.YtohajcflklejjaaGreat
open Go.RowKit
set_option linter.unusedVariables false
theorem sorted_app {A B : List Ent} (h : Sorted (A ++ B)) : Sorted A ∧ Sorted B ∧ ∀ a ∈ A, ∀ b ∈ B, klt a.1 b.1 = true := List.pairwise_append.1 h
end Go.Proofs.YtohajcflklejjaaGreat
namespace Go.Proofs.YtohajcflklejjaaGreat
open Go.RowKit
set_option linter.unusedVariables false
set_option linter.unusedSimpArgs false
theorem kids_nil (w : World) : Calls Tryz.prog 76 #[.pointer none] w fun e w' => e = .returned (.slice none 0 0) ∧ w = w' := by
  go_enter Tryz.func76, Tryz.ntmps76
  go_wp2_with fail
  go_ret
  exact ⟨rfl, rfl⟩
end Go.Proofs.YtohajcflklejjaaGreat
namespace Go.Proofs.YtohajcflklejjaaGreat
open Go.RowKit
set_option linter.unusedVariables false
set_option linter.unusedSimpArgs false
set_option maxRecDepth 100000 in
set_option maxHeartbeats 1000000 in
theorem build_big {w : World} {s : Sl} {xs : List LE} (hs : ES w (Lt w.heap.size) s xs) (hl : xs.length ≤ 500000) : Calls Tryz.prog 17 #[.slice s.a xs.length s.c] w (BuildPost (xs.map LE.ent) w) := by
  have HS := Lib.hid hs
  clear hs
  go_enter Tryz.func17, Tryz.ntmps17
  go_wp2_with fail
  generalize hW0 : World.alloc (World.alloc _ _) _ = W0
  obtain ⟨hxx, hzz, hb0, hb1⟩ := two_blocks w _ _ _ _ W0 hW0
  clear hW0
  go_loopw [8] (fun i wr => ∃ (j : Nat) (T : RT) (p : Option Addr), j ≤ xs.length ∧ i = .int .i64 j ∧ Ext w wr ∧ Blk wr w.heap.size 33 #[.pointer none] ∧ Blk wr (w.heap.size + 1) 33 #[.pointer p] ∧ Hid (rootV T = .pointer p) ∧ BuiltR ((xs.take j).map LE.ent) T ∧ IsT wr (In (w.heap.size + 2) wr.heap.size) T)
    (fun i _ => xs.length - (intOf i).toNat)
  case atStart => exact ⟨0, none, none, Nat.zero_le _, rfl, hxx, hb0, hb1, Lib.hid rfl, .nil, trivial⟩
  case round =>
    obtain ⟨j, T, p, hj, rfl, hx, hR, hS, HP, hB, hT⟩ := hrel
    clear hxx hzz hb0 hb1
    have HX := Lib.hid hx
    have HR := Lib.hid hR
    have HB := Lib.hid hB
    have HT := Lib.hid hT
    have HSS := Lib.hid hS
    have c0 : wr.cell? ⟨w.heap.size + 1, 0, none⟩ = some (.pointer p) := hS.cell 0
    have fS := hS.frozen
    have lS := hS.lt
    by_cases hlt : j < xs.length
    · obtain ⟨x, hxj⟩ : ∃ x, xs[j]? = some x := ⟨_, List.getElem?_eq_getElem hlt⟩
      obtain ⟨b, o, ha, hbl, hlc, hcm, k0, hv, hrv, hkm⟩ := (HS.out.ext hx).at hxj
      obtain ⟨v0, v1, v2, v3, v4, v5⟩ := hv.m
      have hil' : (j : Int) < (xs.length : Int) := by omega
      have hok := hB.both
      have hpt : ∀ W, Ext wr W → Calls Tryz.prog 46 #[.agg #[.pointer p], .string x.k, aggV x.v x.sl x.so] W (PutPost (In (w.heap.size + 2) wr.heap.size) T x.k x.v W) := fun W hW => by
        rw [← HP.out]
        exact put_any (fun b hb => Nat.lt_of_lt_of_le hb.2 hW.size) (hT.agree (hW.agree fun b hb => hb.2)) hok.1 (by
          rw [hok.2]
          have := putAll_len ((xs.take j).map LE.ent) []
          simp only [List.length_map, List.length_take, List.length_nil] at this
          omega) hkm ((hrv.agree (hW.agree fun b hb => hb)).mono fun b hb => Nat.lt_of_lt_of_le hb hW.size)
      obtain ⟨sa, sc⟩ := s
      dsimp only at ha
      subst ha
      have HPT := Lib.hid hpt
      have HXJ := Lib.hid hxj
      clear hx hR hS hB hT hxj hv hrv hok hpt
      go_wp2_with fail
      refine (HPT.out _ ((Ext.refl wr).alloc _ _)).mono ?_
      rintro e w2 ⟨T2, rfl, hp2, hT2, hx2⟩
      obtain ⟨p2, hq2⟩ := rootV_ptr T2
      have HQ2 := Lib.hid hq2
      dsimp only [treeV]
      rw [hq2]
      clear hq2
      have hX2 : Ext wr w2 := ((Ext.refl wr).alloc _ _).trans hx2
      have d0 : w2.cell? ⟨w.heap.size + 1, 0, none⟩ = some (.pointer p) := (hX2.cell lS).trans c0
      have f2 : ∀ o, w2.frozen? ⟨w.heap.size + 1, o, none⟩ = false := fun o => (hX2.frozen lS).trans (fS o)
      have hE := (HX.out.trans hX2).setCell (p := ⟨w.heap.size + 1, 0, none⟩) (show w.heap.size ≤ w.heap.size + 1 by omega) (.pointer p2)
      have hR2 := (HR.out.ext hX2).far (p := ⟨w.heap.size + 1, 0, none⟩) (by simp) (.pointer p2)
      have hS2 : Blk (w2.setCell ⟨w.heap.size + 1, 0, none⟩ (.pointer p2)) (w.heap.size + 1) 33 #[.pointer p2] := (HSS.out.ext hX2).set_ 0 _
      have hT3 : IsT (w2.setCell ⟨w.heap.size + 1, 0, none⟩ (.pointer p2)) (In (w.heap.size + 2) (w2.setCell ⟨w.heap.size + 1, 0, none⟩ (.pointer p2)).heap.size) T2 := by
        have hs2 := hX2.size
        have hlt := lS
        have hm : ∀ i, Up (In (w.heap.size + 2) wr.heap.size) (wr.alloc (.cells #[.string x.k, .int .i64 x.v.kind, .bool x.v.b, .int .i64 x.v.i, .string x.v.t, .slice x.sl.a x.v.l.length x.sl.c, .slice x.so.a x.v.ok.length x.so.c] 47)) w2 i → In (w.heap.size + 2) w2.heap.size i := fun i hi => by
          rcases hi with hi | hi
          · exact ⟨hi.1, Nat.lt_of_lt_of_le hi.2 hs2⟩
          · have := hi.1
            simp at this
            exact ⟨by omega, hi.2⟩
        refine ((hT2.mono hm).agree (Agree.setCell w2 ⟨w.heap.size + 1, 0, none⟩ _ (fun h => by have h1 : w.heap.size + 2 ≤ w.heap.size + 1 := h.1; omega))).mono fun i hi => ⟨hi.1, by simpa using hi.2⟩
      have HB2 := Lib.hid (BuiltR.snoc HB.out hp2)
      have H1 := Lib.hid hE
      have H2 := Lib.hid hR2
      have H3 := Lib.hid hS2
      have H4 := Lib.hid hT3
      clear hp2 hT2 hx2 hX2 hE hR2 hS2 hT3
      go_wp2_with fail
      go_roundw
      case rel => exact ⟨j + 1, T2, p2, hlt, by go_num, H1.out, H2.out, H3.out, HQ2, by rw [List.take_add_one, HXJ.out, List.map_append]; exact HB2.out, H4.out⟩
      case measure => simp [intOf]; omega
    · obtain rfl : j = xs.length := by omega
      have r0 : wr.cell? ⟨w.heap.size, 0, none⟩ = some (.pointer none) := hR.cell 0
      have fR := hR.frozen
      clear hx hR hS hB hT
      go_wp2_with fail
      have q0 : (wr.setCell ⟨w.heap.size, 0, none⟩ (.pointer p)).cell? ⟨w.heap.size, 0, none⟩ = some (.pointer p) := World.cell?_setCell_same wr _ _ r0
      refine bodyPost_ret (v := .agg #[.pointer p]) (by simp [results, Tryz.results17, go_sem, q0]) rfl ?_
      refine ⟨T, by rw [treeV, HP.out], by have := HB.out; rwa [List.take_length] at this, ?_, HX.out.setCell (p := ⟨w.heap.size, 0, none⟩) (Nat.le_refl _) _⟩
      exact (HT.out.agree (Agree.setCell wr ⟨w.heap.size, 0, none⟩ _ (fun h => by have h1 : w.heap.size + 2 ≤ w.heap.size := h.1; omega))).mono fun i hi => ⟨by have := hi.1; omega, by simpa using hi.2⟩
end Go.Proofs.YtohajcflklejjaaGreat
namespace Go.Proofs.YtohajcflklejjaaGreat
open Go.RowKit
set_option linter.unusedVariables false
set_option linter.unusedSimpArgs false
theorem one_list {w : World} {F : Nat → Prop} {n : Int} {sl so : Sl} (h : RV w F (listV n) sl so) : ∃ b o c, sl = ⟨some ⟨b, o, none⟩, c⟩ ∧ F b ∧ 1 ≤ c ∧ c ≤ maxLen ∧ w.cell? ⟨b, o + 2, none⟩ = some (.int .i64 n) := by
  cases h with
  | mk bl fl bo fo cl co hl ho hov el rl ek eo ro bk bi bt nl no =>
    obtain ⟨h1, h2, h3⟩ := hl.eq (Nat.zero_lt_one)
    have := (el 0 _ rfl).c2
    rw [Nat.zero_mul, Nat.add_zero] at this
    exact ⟨bl, fl, sl.c, by obtain ⟨a, c⟩ := sl; simp_all, hl.fits (Nat.zero_lt_one), h2, h3, this⟩
theorem rv_list {w : World} {F : Nat → Prop} {n : Int} {b : Nat} (hb : Blk w b 44 #[.int .i64 3, .bool false, .int .i64 n, .string ByteArray.empty, .slice none 0 0, .slice none 0 0]) (hF : F b) (wn : (Lit.int .i64 n).wf = true) : RV w F (listV n) ⟨some ⟨b, 0, none⟩, 1⟩ Sl.none := by
  obtain ⟨c0, c1, c2, c3, c4, c5⟩ := hb.c6
  refine .mk b 0 0 0 (fun _ => (Sl.none, Sl.none)) (fun _ => (Sl.none, Sl.none)) (.some _ _ _ _ (Nat.le_refl _) (by decide) hF) (.nil _ _) rfl (fun j d hj => ?_) (fun j d hj => ?_) (fun j k h => by simp at h) (fun j k h => by simp at h) (fun j k h => by simp at h) (by decide) (by decide) (by decide) (show 1 * 88 ≤ 140737488355328 by decide) (by decide)
  · match j, hj with
    | 0, hj =>
      simp at hj; subst hj
      exact ⟨c0, c1, c2, c3, c4, c5⟩
  · match j, hj with
    | 0, hj =>
      simp at hj; subst hj
      exact RV.flat _ _ _ _ _ _ (by decide) wn (by decide)
end Go.Proofs.YtohajcflklejjaaGreat
namespace Go.Proofs.YtohajcflklejjaaGreat
open Go.RowKit
set_option linter.unusedVariables false
theorem own_of_cells {w : World} {base g e cap size n : Nat} {xs : List Value} (hf : Filling w g e size cap) (hbg : base ≤ g) (hn : n ≤ cap) (hcm : cap ≤ maxLen) (hl : xs.length = n * size) (hc : ∀ j u, xs[j]? = some u → w.cell? ⟨g, j, none⟩ = some u) :
    w.ownsRow base e size (.slice (some ⟨g, 0, none⟩) n cap) n xs := by
  obtain ⟨cur, h1, h2⟩ := hf
  refine ⟨hl, .inr ⟨g, cap, cur, rfl, hbg, h1, hn, hcm, h2, ?_⟩⟩
  have hle : n * size ≤ cap * size := Nat.mul_le_mul_right _ hn
  refine List.ext_getElem? fun j => ?_
  by_cases hj : j < xs.length
  · obtain ⟨u, hu⟩ : ∃ u, xs[j]? = some u := ⟨_, List.getElem?_eq_getElem hj⟩
    have := hc j u hu
    rw [cell_of_row w g j cur e (0, 0) h1] at this
    rw [hu, List.getElem?_take, if_pos (by omega), Array.getElem?_toList, this]
  · rw [List.getElem?_eq_none (l := xs) (by omega), List.getElem?_eq_none (by rw [List.length_take, Array.length_toList]; omega)]
theorem own_putM {w : World} {base e g cap n : Nat} {A Z : List Value} (h : w.ownsRow base e 7 (.slice (some ⟨g, 0, none⟩) (n + 1) cap) (n + 1) (A ++ Z)) (hA : A.length = n * 7) (x : LE) :
    (putM w g (n * 7) x.k x.v x.sl x.so).ownsRow base e 7 (.slice (some ⟨g, 0, none⟩) (n + 1) cap) (n + 1) (A ++ x.cells) := by
  obtain ⟨g', cap', hs, hbg, hnc, hcm, hfil⟩ := own_block (s := ⟨some ⟨g, 0, none⟩, cap⟩) h (Nat.succ_pos n)
  obtain ⟨rfl, rfl⟩ : g = g' ∧ cap = cap' := by simpa using hs
  have hcl := h.cells (g := g) rfl
  obtain ⟨k0, kv⟩ := putM_here hfil (o := n * 7) x.k x.v x.sl x.so (by omega)
  obtain ⟨v1, v2, v3, v4, v5, v6⟩ := kv.m
  refine own_of_cells (hfil.putM _ _ _ _ _ _) hbg hnc hcm (by rw [List.length_append, hA, LE.len]; omega) fun j u hj => ?_
  by_cases hjl : j < n * 7
  · rw [List.getElem?_append_left (by omega)] at hj
    rw [putM_other _ _ _ _ _ _ _ _ (.inl hjl)]
    have := hcl j u (by rw [List.getElem?_append_left (by omega)]; exact hj)
    rw [add_at, Nat.zero_add] at this
    exact this
  · rw [List.getElem?_append_right (by omega), hA] at hj
    obtain ⟨c, rfl⟩ : ∃ c, j = n * 7 + c := ⟨j - n * 7, by omega⟩
    rw [Nat.add_sub_cancel_left] at hj
    match c, hj with
    | 0, hj => cases hj; exact k0
    | 1, hj => cases hj; exact v1
    | 2, hj => cases hj; exact v2
    | 3, hj => cases hj; exact v3
    | 4, hj => cases hj; exact v4
    | 5, hj => cases hj; exact v5
    | 6, hj => cases hj; exact v6
    | c + 7, hj => rw [List.getElem?_eq_none (by rw [LE.len]; omega)] at hj; cases hj
theorem coll_end {w W0 W3 W4 w5 W' : World} {B : Nat} {s s3 : Sl} {ys : List LE} {es : List Ent} {x : LE} (hB : B < w.heap.size) (ho : OE W0 (w.heap.size + 2) s ys) (hes : ys.map LE.ent = es) (hst : St (fun b => b = B) w W0) (hsz : w.heap.size + 2 ≤ W0.heap.size)
    (h03 : St (fun b => b = w.heap.size + 1) W0 W3) (hv : RV W3 (In W0.heap.size W3.heap.size) x.v x.sl x.so) (hk : x.k.size ≤ maxLen) (h34 : Ext W3 W4)
    (hwr : Wr W4 w5 s.row) (hs3 : s3.a = s.a ∨ s3.a = some ⟨W4.heap.size, 0, none⟩ ∧ Wr W4 w5 none) (h5 : St (fun b => b = B ∨ s3.row = some b) w5 W') (hfew : (ys.length + 1) * 104 ≤ 140737488355328)
    (hblk : Blk W' B 50 #[.slice s3.a (ys.length + 1) s3.c]) (hown : W'.ownsRow (w.heap.size + 2) 47 7 (.slice s3.a (ys.length + 1) s3.c) (ys.length + 1) (flatE ys ++ LE.cells x)) :
    Coll w B (es ++ [x.ent]) (fun b => b = B ∨ s3.row = some b) W' ∧ St (fun b => b = B ∨ s.row = some b) W3 W' ∧
      (∀ b, (b = B ∨ s3.row = some b) → (b = B ∨ s.row = some b) ∨ W3.heap.size ≤ b) ∧ (∀ b, (b = B ∨ s3.row = some b) → b < W'.heap.size) := by
  have hrow0 : ∀ b, s.row = some b → w.heap.size + 2 ≤ b ∧ b < W0.heap.size := fun b hb => own_row ho.own hb
  have hs03 := h03.size
  have hs34 := h34.size
  have hs45 := hwr.grown.size
  have hs56 := h5.size
  have hs2 : ∀ b, s3.row = some b → s.row = some b ∨ W4.heap.size ≤ b := by
    intro b hb
    rcases hs3 with h | ⟨h, -⟩
    · exact .inl (by rw [← hb]; simp [Sl.row, h])
    · right; rw [Sl.row, h] at hb; simp at hb; omega
  have hst46 : St (fun b => b = B ∨ s.row = some b) W4 W' := ((hwr.st (H := fun b => b = B ∨ s.row = some b) fun i hi => .inr hi)).then h5 fun i hi h => by
    rcases h with h | h
    · exact .inl h
    · rcases hs2 i h with h | h
      · exact .inr h
      · omega
  have hst36 : St (fun b => b = B ∨ s.row = some b) W3 W' := (h34.st _).trans hst46
  have hst06 : St (fun b => b = w.heap.size + 1 ∨ b = B ∨ s.row = some b) W0 W' := (h03.mono fun i _ hi => .inl hi).trans (hst36.mono fun i _ hi => .inr hi)
  have hl3 : ∀ b, s3.row = some b → b < W'.heap.size := fun b hb => (own_row hown hb).2
  have hx : (ys ++ [x]).length = ys.length + 1 := by simp
  refine ⟨⟨⟨s3, ys ++ [x], rfl, ?_, ⟨?_, ?_, ?_⟩, by rw [List.map_append, hes]; rfl⟩, ?_, by omega⟩, hst36, ?_, ?_⟩
  · rw [hx]; exact hblk
  · rw [hx, flatE_app, show flatE [x] = LE.cells x from by simp [flatE]]; exact hown
  · intro y hy
    rcases List.mem_append.1 hy with hy | hy
    · refine ⟨((ho.vals y hy).1.agree (hst06.agree.mono fun i hi => ⟨hi.1.2, fun h => ?_⟩)).mono fun i hi => ⟨⟨hi.1.1, by have := hi.1.2; omega⟩, fun e => ?_⟩, (ho.vals y hy).2⟩
      · rcases h with h | h | h
        · have := hi.1.1; omega
        · have := hi.1.1; omega
        · exact hi.2 h
      · rcases hs2 i e with h | h
        · exact hi.2 h
        · have := hi.1.2; omega
    · rw [List.mem_singleton.1 hy]
      refine ⟨(hv.agree (hst36.agree.mono fun i hi => ⟨hi.2, fun h => ?_⟩)).mono fun i hi => ⟨⟨by have := hi.1; omega, by have := hi.2; omega⟩, fun e => ?_⟩, hk⟩
      · have := hi.1
        rcases h with h | h
        · have := hst.size; omega
        · have := (hrow0 i h).2; omega
      · have := hi.1
        rcases hs2 i e with h | h
        · have := (hrow0 i h).2; omega
        · have := hi.2; omega
  · rw [hx]; exact hfew
  · exact hst.then hst06 fun i hi h => by
      rcases h with h | h | h
      · omega
      · exact h
      · have := (hrow0 i h).1; omega
  · rintro b (rfl | hb)
    · exact .inl (.inl rfl)
    · rcases hs2 b hb with h | h
      · exact .inl (.inr h)
      · exact .inr (by omega)
  · rintro b (rfl | hb)
    · have := hst.size; omega
    · exact hl3 b hb
end Go.Proofs.YtohajcflklejjaaGreat
namespace Go.Proofs.YtohajcflklejjaaGreat
open Go.RowKit
set_option linter.unusedVariables false
def plainOp : Op → Bool
  | .call c => match c.callee with
    | .builtin .append | .builtin .len | .builtin .cap | .builtin .copy | .builtin .max | .builtin .min => true
    | _ => false
  | .go _ | .defer _ | .send _ _ | .recv _ _ _ | .select _ _ | .panic _ | .nilCheck _ => false
  | _ => true
theorem vrow {P : Program} {w w' : World} (s : Sem Value) (row : String) (args : Array Value) : (do pure (Next.value (← s)) : Sem Next).run P w ≠ .ok (.row row args) w' := by
  intro h
  rw [Sem.run_bind] at h
  cases hs : s.run P w with
  | ok v w1 => rw [hs] at h; simp [Result.andThen] at h
  | halt x w1 => rw [hs] at h; simp [Result.andThen] at h
theorem urow {P : Program} {w w' : World} (s : Sem Unit) (row : String) (args : Array Value) : (do s; pure Next.skip : Sem Next).run P w ≠ .ok (.row row args) w' := by
  intro h
  rw [Sem.run_bind] at h
  cases hs : s.run P w with
  | ok v w1 => rw [hs] at h; simp [Result.andThen] at h
  | halt x w1 => rw [hs] at h; simp [Result.andThen] at h
theorem arow {w' : World} (r : Result Value) (row : String) (args : Array Value) : (r.andThen fun a w => Result.ok (Next.value a) w) ≠ .ok (.row row args) w' := by cases r <;> simp [Result.andThen]
theorem plain_row {P : Program} {ρ : Operand → Value} {o : Oper} {w w' : World} (h : plainOp o.op = true) (row : String) (args : Array Value) : (execOp ρ o).run P w ≠ .ok (.row row args) w' := by
  unfold execOp
  cases ho : o.op with
  | call c =>
    rw [ho] at h
    cases hc : c.callee with
    | builtin b =>
      simp only [plainOp, hc] at h
      cases b <;> first | exact absurd h (by decide) | (simp only [resolve, hc, Sem.run_bind, Sem.run_pure, Result.andThen_ok, invoke, builtin]; exact arow _ _ _)
    | _ => simp [plainOp, hc] at h
  | pick c x y =>
    intro h'
    simp only at h'
    rw [Sem.run_bind] at h'
    cases hs : (asBool (ρ c)).run P w with
    | ok v w1 => rw [hs] at h'; simp [Result.andThen] at h'
    | halt x w1 => rw [hs] at h'; simp [Result.andThen] at h'
  | _ =>
    simp only
    first
    | exact vrow _ _ _
    | exact urow _ _ _
    | (intro h; simp at h; done)
    | (rw [ho] at h; simp [plainOp] at h)
theorem plain_no_defer {o : Oper} (h : plainOp o.op = true) : ∀ c, o.op ≠ .defer c := fun c e => by rw [e] at h; simp [plainOp] at h
theorem wpOpIn_of_plain {P : Program} {ops : Array Oper} {Q : Exit → Act → World → Prop} {l n : Nat} (hp : ∀ (i : Nat) (o : Oper), ops[i]? = some o → plainOp o.op = true) (hQ : ¬ LetsOut Q) {i : Nat} {K K' : Act → World → Prop} {a : Act} {w : World}
    (hK : ∀ a w, K a w → K' a w) (h : wpOp P ops Q i K a w) : wpOpIn (Fence.wide.inRound l) n P ops Q i K' a w := by
  unfold wpOp at h
  unfold wpOpIn
  cases ho : ops[i]? with
  | none => simp only [ho] at h ⊢; exact hK _ _ h
  | some o =>
    simp only [ho] at h ⊢
    split at h
    · rename_i hw
      rw [if_pos hw]
      rcases h with h | ⟨-, h⟩
      · unfold Oper.wpIn
        refine ⟨fun _ _ => trivial, ?_⟩
        rw [show (Fence.wide.inRound l).round = some l from rfl, Oper.semAt_some l _ o (plain_no_defer (hp i o ho))]
        unfold Oper.wp at h
        have hr := fun row args w' => plain_row (P := P) (ρ := a.eval) (w := w) (w' := w') (hp i o ho) row args
        generalize (execOp a.eval o).run P w = r at *
        cases r with
        | ok x w' =>
          cases x <;> simp only [Oper.upon, Oper.uponIn] at h ⊢
          case value v => exact hK _ _ h
          case skip => exact hK _ _ h
          case defer d => exact hK _ _ h
          case enter f args =>
            refine ⟨(fun hd => by simp [Fence.wide] at hd), (CallsIn.inRound l (callsIn_wide.2 h)).mono fun e w'' he => ?_⟩
            cases e with
            | returned v => exact hK _ _ he
            | panicked c => exact he
            | outgrown => exact he
          case row row args => exact absurd rfl (hr row args w')
        | halt x w' => cases x <;> simp only [Oper.upon, Oper.uponIn] at h ⊢ <;> exact h
      · exact absurd h hQ
    · rename_i hw
      rw [if_neg hw]
      exact ⟨fun _ _ => trivial, hK _ _ h⟩
theorem wpAnyIn_of_plain {P : Program} {md : Region.Mode} {ops : Array Oper} {Q : Exit → Act → World → Prop} {S : World → Prop} {l n : Nat} (hp : ∀ (i : Nat) (o : Oper), ops[i]? = some o → plainOp o.op = true) (hQ : ¬ LetsOut Q) :
    ∀ fuel listed a w, wpAnyH P md ops Q S fuel listed a w → wpAnyIn (Fence.wide.inRound l) n P md ops Q fuel listed a w := by
  intro fuel
  induction fuel with
  | zero => exact fun _ _ _ h => h
  | succ fuel ih =>
    intro listed a w h
    exact ⟨h.1, fun i hi => wpOpIn_of_plain hp hQ (fun a' w' h' => ih _ a' w' h'.2) (h.2 i hi)⟩
theorem wpIn_region_round {P : Program} {id l n : Nat} {ops : Array Oper} {Q : Exit → Act → World → Prop} {S : World → Prop} {a : Act} {w : World} (hp : (ops.all fun o => plainOp o.op) = true) (hQ : ¬ LetsOut Q) (hm : P.follows .mixedOrders = true) (hS : S w.drew)
    (h : S w.drew → wpAnyH P .any ops Q S ops.size (Array.replicate ops.size false) a w.drew) : (Code.region id ops true).wpIn (Fence.wide.inRound l) n P Q a w :=
  wpIn_region_any hm (wpAnyIn_of_plain (fun i o ho => by
    have := Array.all_eq_true.1 hp i (Array.getElem?_eq_some_iff.1 ho).1
    rwa [(Array.getElem?_eq_some_iff.1 ho).2] at this) hQ _ _ _ _ (h hS))
end Go.Proofs.YtohajcflklejjaaGreat
namespace Go.Proofs.YtohajcflklejjaaGreat
set_option linter.unusedVariables false
theorem rangeE_app (lo hi : ByteArray) (op : Bool) (a b : List Ent) : rangeE lo hi op (a ++ b) = rangeE lo hi op a ++ rangeE lo hi op b := List.filter_append ..
theorem rangeE_below {lo hi : ByteArray} {op : Bool} {es : List Ent} (h : ∀ e ∈ es, klt e.1 lo = true) : rangeE lo hi op es = [] :=
  List.filter_eq_nil_iff.2 fun e he => by simp [inI, h e he]
theorem rangeE_above {lo hi : ByteArray} {op : Bool} {es : List Ent} (h : ∀ e ∈ es, endI hi op e.1 = true) : rangeE lo hi op es = [] :=
  List.filter_eq_nil_iff.2 fun e he => by
    have := h e he
    simp only [endI, Bool.and_eq_true, Bool.not_eq_true'] at this
    simp [inI, this.1, this.2]
theorem endI_up {hi : ByteArray} {op : Bool} {a b : ByteArray} (h : endI hi op a = true) (hab : klt a b = true) : endI hi op b = true := by
  simp only [endI, Bool.and_eq_true, Bool.not_eq_true'] at h ⊢
  refine ⟨h.1, ?_⟩
  cases hb : klt b hi
  · rfl
  · rw [klt_trans hab hb] at h; cases h.2
theorem rangeE_one {lo hi : ByteArray} {op : Bool} {e : Ent} (h1 : klt e.1 lo = false) (h2 : endI hi op e.1 = false) : rangeE lo hi op [e] = [e] := by
  have : inI lo hi op e = true := by
    simp only [endI, Bool.and_eq_false_iff, Bool.not_eq_false'] at h2
    rcases h2 with h2 | h2 <;> simp [inI, h1, h2]
  simp [rangeE, this]
theorem rangeE_behind {lo hi : ByteArray} {op : Bool} {A B : List Ent} (hs : Sorted (A ++ B)) (h : ∃ e ∈ A, endI hi op e.1 = true) : rangeE lo hi op B = [] := by
  obtain ⟨e, he, h⟩ := h
  exact rangeE_above fun x hx => endI_up h ((sorted_app hs).2.2 e he x hx)
theorem le_last {es : List Ent} (hs : Sorted es) {e : Ent} (he : e ∈ es) : klt (lastK es) e.1 = false := by
  have hne : es ≠ [] := by rintro rfl; cases he
  rcases List.eq_nil_or_concat es with rfl | ⟨a, x, rfl⟩
  · exact absurd rfl hne
  · rw [List.concat_eq_append] at hs he
    have hl : lastK (a.concat x) = x.1 := by simp [lastK]
    rw [hl]
    rcases List.mem_append.1 he with h | h
    · exact klt_asymm ((sorted_app hs).2.2 e h x (List.mem_singleton.2 rfl))
    · rw [List.mem_singleton.1 h]; exact klt_irrefl _
theorem first_le {es : List Ent} (hs : Sorted es) {e : Ent} (he : e ∈ es) : klt e.1 (firstK es) = false := by
  cases es with
  | nil => cases he
  | cons x es =>
    show klt e.1 x.1 = false
    rcases List.mem_cons.1 he with rfl | h
    · exact klt_irrefl _
    · exact klt_asymm ((List.pairwise_cons.1 hs).1 e h)
theorem lt_of_last {es : List Ent} (hs : Sorted es) {lo : ByteArray} (h : klt (lastK es) lo = true) : ∀ e ∈ es, klt e.1 lo = true := fun e he => klt_of_ge_lt (le_last hs he) h
theorem end_of_first {es : List Ent} (hs : Sorted es) {hi : ByteArray} {op : Bool} (h : endI hi op (firstK es) = true) : ∀ e ∈ es, endI hi op e.1 = true := fun e he => by
  simp only [endI, Bool.and_eq_true, Bool.not_eq_true'] at h ⊢
  refine ⟨h.1, ?_⟩
  cases hb : klt e.1 hi
  · rfl
  · have := klt_of_ge_lt (first_le hs he) hb
    rw [h.2] at this; cases this
end Go.Proofs.YtohajcflklejjaaGreat
namespace Go.Proofs.YtohajcflklejjaaGreat
open Go.RowKit
set_option linter.unusedVariables false
set_option linter.unusedSimpArgs false
abbrev inV (lo hi : ByteArray) (op : Bool) : Value := .agg #[.string lo, .string hi, .bool op]
theorem ends_any (w : World) (lo hi : ByteArray) (op : Bool) (k : ByteArray) : Calls Tryz.prog 103 #[inV lo hi op, .string k] w fun e w' => e = .returned (.bool (endI hi op k)) ∧ Ext w w' := by
  cases op
  · go_enter Tryz.func103, Tryz.ntmps103
    go_wp2_with fail
    go_ret
    exact ⟨rfl, (Ext.refl w).alloc _ _⟩
  · go_enter Tryz.func103, Tryz.ntmps103
    go_wp2_with fail
    go_ret
    exact ⟨rfl, (Ext.refl w).alloc _ _⟩
structure LeafC (At : World → Prop) (nv : Value) (es : List Ent) : Prop where
  ext : ∀ {W W'}, At W → Ext W W' → At W'
  ptr : ∃ p, nv = .pointer p
  height : ∀ W, At W → Calls Tryz.prog 75 #[nv] W fun e w' => e = .returned (.int .i64 0) ∧ W = w'
  size : ∀ W, At W → Calls Tryz.prog 78 #[nv] W fun e w' => e = .returned (.int .i64 es.length) ∧ ∃ q, w' = W.drewN q
  kids : ∀ W, At W → Calls Tryz.prog 76 #[nv] W fun e w' => e = .returned (.slice none 0 0) ∧ W = w'
  entry : ∀ W, At W → ∀ (i : Nat) (e : Ent), es[i]? = some e → Calls Tryz.prog 80 #[nv, .int .i64 i] W (EntryPost e.1 e.2 W)
  none : ∀ W, At W → ∀ i : Int, (i < 0 ∨ es.length ≤ i) → Calls Tryz.prog 80 #[nv, .int .i64 i] W fun e w' => e = .returned (.tuple #[aggE ByteArray.empty zeroV Sl.none Sl.none, .bool false]) ∧ Ext W w'
  sorted : Sorted es
  few : es.length ≤ 8
theorem leafC_node {F : Nat → Prop} {t : PT 0} (ok : OkT 0 t) (hs : Sorted (ents 0 t)) : LeafC (NodeAt F 0 t) (ptr 0 t) (ents 0 t) where
  ext := NodeAt.ext
  ptr := ⟨_, rfl⟩
  height W a := height_any a.1
  size W a := size_any a.1 (Nat.le_trans (show (ents 0 t).length ≤ 8 from ok) (by decide))
  kids W a := kids_leaf a.1
  entry W a i e h := entry_any a.lt h
  none W a i h := entry_none a.lt h
  sorted := hs
  few := ok
theorem leafC_nil : LeafC (fun _ => True) (.pointer none) [] where
  ext _ _ := trivial
  ptr := ⟨_, rfl⟩
  height W _ := height_nil W
  size W _ := (size_nil W).mono fun e w' ⟨h1, h2⟩ => ⟨h1, 0, h2.symm⟩
  kids W _ := kids_nil W
  entry W _ i e h := by simp at h
  none W _ i _ := entry_nil W i
  sorted := List.Pairwise.nil
  few := by simp
set_option maxRecDepth 100000 in
/-- The closure of below. -/
theorem below1_any {W : World} {nv : Value} {b1 b2 : Nat} {k k' : ByteArray} {v : Val} {i : Nat} (h1 : W.cell? ⟨b1, 0, none⟩ = some nv) (h2 : W.cell? ⟨b2, 0, none⟩ = some (.string k))
    (hp : ∃ p, nv = .pointer p) (hc : Calls Tryz.prog 80 #[nv, .int .i64 i] W (EntryPost k' v W)) :
    Calls Tryz.prog 151 #[.int .i64 i, .pointer (some ⟨b1, 0, none⟩), .pointer (some ⟨b2, 0, none⟩)] W fun e w' => e = .returned (.bool !(klt k' k)) ∧ Ext W w' := by
  obtain ⟨p, rfl⟩ := hp
  have hb2 := World.block_lt_of_cell? W _ h2
  go_enter Tryz.func151, Tryz.ntmps151
  go_wp2_with fail
  refine hc.mono ?_
  rintro e w1 ⟨sl, so, rfl, hx, -⟩
  have q2 := (hx.cell hb2).trans h2
  have l2 : b2 < w1.heap.size := Nat.lt_of_lt_of_le hb2 hx.size
  have HX := Lib.hid hx
  clear hc hx h2
  go_wp2
  go_ret
  exact ⟨rfl, HX.out.alloc _ _⟩
set_option maxRecDepth 100000 in
set_option maxHeartbeats 1000000 in
theorem below_any {At : World → Prop} {nv : Value} {es : List Ent} (hc : LeafC At nv es) {w : World} (hw : At w) (k : ByteArray) : Calls Tryz.prog 130 #[nv, .string k] w fun e w' => e = .returned (.int .i64 (posE es k)) ∧ Ext w w' := by
  obtain ⟨pp, rfl⟩ := hc.ptr
  have hl := hc.few
  have hsr : ∀ W, Ext w W → W.cell? ⟨w.heap.size, 0, none⟩ = some (.pointer pp) → W.cell? ⟨w.heap.size + 1, 0, none⟩ = some (.string k) → Calls Tryz.prog 70 #[.int .i64 es.length, .func (.func 151) #[] #[.pointer (some ⟨w.heap.size, 0, none⟩), .pointer (some ⟨w.heap.size + 1, 0, none⟩)]] W (SearchPost es.length (fun i => !(klt ((es[i]?.map Prod.fst).getD ByteArray.empty) k)) W) := by
    intro W hW c1 c2
    refine search_any 151 _ _ es.length _ W (enters_of Tryz.func151 (by kernel_rfl) rfl) (by omega) ?_ ?_
    · intro i W' hi hW'
      obtain ⟨x, hx⟩ : ∃ x, es[i]? = some x := ⟨_, List.getElem?_eq_getElem hi⟩
      rw [hx]
      exact below1_any ((hW'.cell (World.block_lt_of_cell? W _ c1)).trans c1) ((hW'.cell (World.block_lt_of_cell? W _ c2)).trans c2) ⟨_, rfl⟩ (hc.entry W' (hc.ext (hc.ext hw hW) hW') i x hx)
    · intro i j hij hj hpi
      by_cases hij' : i = j
      · subst hij'; exact hpi
      · obtain ⟨x, hx⟩ : ∃ x, es[i]? = some x := ⟨_, List.getElem?_eq_getElem (by omega)⟩
        obtain ⟨y, hy⟩ : ∃ y, es[j]? = some y := ⟨_, List.getElem?_eq_getElem hj⟩
        have hxy := sorted_lt hc.sorted (i := i) (j := j) (by omega) hx hy
        rw [hx] at hpi; rw [hy]
        simp only [Option.map_some, Option.getD_some, Bool.not_eq_true'] at hpi ⊢
        cases hyk : klt y.1 k
        · rfl
        · have := klt_trans hxy hyk
          rw [hpi] at this; cases this
  have HC := Lib.hid hc
  have HSR := Lib.hid hsr
  have HW := Lib.hid hw
  clear hc hsr hw
  go_enter Tryz.func130, Tryz.ntmps130
  go_wp2_with fail
  generalize hW0 : World.alloc _ _ = W0
  obtain ⟨hx0, hz0, hb0, hb1⟩ := two_blocks w _ _ _ _ W0 hW0
  have q0 : W0.cell? ⟨w.heap.size, 0, none⟩ = some (.pointer pp) := hb0.cell 0
  have HX0 := Lib.hid hx0
  have HB0 := Lib.hid hb0
  have HB1 := Lib.hid hb1
  clear hW0 hb0 hb1 hx0 hz0
  refine (HC.out.size W0 (HC.out.ext HW.out HX0.out)).mono ?_
  rintro e w1 ⟨rfl, q, rfl⟩
  clear q0
  go_wp2_with fail
  refine (HSR.out _ (HX0.out.drewN q) (HB0.out.cell 0) (HB1.out.cell 0)).mono ?_
  rintro e w1 ⟨p, rfl, hp, hlo, hhi, he1⟩
  have hpos : posE es k = p := posE_of hp (fun i e hi he => by
      have : (!(klt ((es[i]?.map Prod.fst).getD ByteArray.empty) k)) = false := hlo i hi
      rw [he] at this
      simpa using this) (fun e he => by
      have : (!(klt ((es[p]?.map Prod.fst).getD ByteArray.empty) k)) = true := hhi p (Nat.le_refl _) (List.getElem?_eq_some_iff.1 he).1
      rw [he] at this
      simpa using this)
  have HE := Lib.hid ((HX0.out.drewN q).trans he1)
  have HP := Lib.hid hpos
  clear hlo hhi hpos he1
  go_wp2_with fail
  go_ret
  exact ⟨by rw [HP.out]; rfl, HE.out⟩
end Go.Proofs.YtohajcflklejjaaGreat
namespace Go.Proofs.YtohajcflklejjaaGreat
open Go.RowKit
set_option linter.unusedVariables false
set_option linter.unusedSimpArgs false
theorem kid_ne {h : Nat} {t : PT (h + 1)} (ok : OkT (h + 1) t) {kid : PT h} (hk : kid ∈ t.2) : ents h kid ≠ [] := by
  have h1 := ok.2.2 kid hk
  have := ents_pos h kid h1.1 (by omega)
  intro e; rw [e] at this; simp at this
end Go.Proofs.YtohajcflklejjaaGreat
namespace Go.Proofs.YtohajcflklejjaaGreat
open Go.RowKit
set_option linter.unusedVariables false
set_option linter.unusedSimpArgs false
abbrev zero7 : Array Value := #[.string ByteArray.empty, .int .i64 0, .bool false, .int .i64 0, .string ByteArray.empty, .slice none 0 0, .slice none 0 0]
end Go.Proofs.YtohajcflklejjaaGreat
namespace Go.Proofs.YtohajcflklejjaaGreat
open Go.RowKit Go.Shelf
set_option linter.unusedVariables false
set_option linter.unusedSimpArgs false
attribute [local go_sem] Oper.semAt_some
abbrev encE (x : LE) : Array Value := #[.string x.k, aggV x.v x.sl x.so]
structure ScanG (all : List Ent) (pre : List LE) (x : LE) (W0 W1 : World) : Prop where
  at_ : all[pre.length]? = some x.ent
  pre_ : pre.map LE.ent = all.take pre.length
  val : RV W1 (In W0.heap.size W1.heap.size) x.v x.sl x.so
  key : x.k.size ≤ maxLen
theorem scanG_next {all rest : List Ent} {pre new : List LE} {A : List Ent} {lo hi : ByteArray} {op : Bool} {x : LE} {B : List Ent} (hall : all = pre.map LE.ent ++ (rangeE lo hi op (A ++ x.ent :: B) ++ rest)) (hn : new.map LE.ent = rangeE lo hi op A) (h1 : klt x.k lo = false) (h2 : endI hi op x.k = false) :
    all[(pre ++ new).length]? = some x.ent ∧ (pre ++ new).map LE.ent = all.take (pre ++ new).length ∧ (new ++ [x]).map LE.ent = rangeE lo hi op (A ++ [x.ent]) := by
  have e1 : rangeE lo hi op (A ++ x.ent :: B) = rangeE lo hi op A ++ (x.ent :: rangeE lo hi op B) := by
    rw [show A ++ x.ent :: B = A ++ ([x.ent] ++ B) from rfl, rangeE_app, rangeE_app, rangeE_one (e := x.ent) h1 h2]; rfl
  rw [e1, ← hn] at hall
  have e2 : all = (pre ++ new).map LE.ent ++ (x.ent :: (rangeE lo hi op B ++ rest)) := by rw [hall]; simp
  have hl : (pre ++ new).length = ((pre ++ new).map LE.ent).length := by simp
  refine ⟨?_, ?_, ?_⟩
  · rw [e2, hl, List.getElem?_append_right (Nat.le_refl _), Nat.sub_self]; rfl
  · rw [e2, hl, List.take_left]
  · rw [List.map_append, hn, rangeE_app, List.map_cons, List.map_nil, rangeE_one (e := x.ent) h1 h2]
theorem rangeE_rest {lo hi : ByteArray} {op : Bool} {es : List Ent} (hs : Sorted es) {i : Nat} {x : Ent} (hx : es[i]? = some x) (he : endI hi op x.1 = true) : rangeE lo hi op (es.take i) = rangeE lo hi op es := by
  have hd : es.drop i = x :: es.drop (i + 1) := by
    obtain ⟨h1, rfl⟩ := List.getElem?_eq_some_iff.1 hx
    exact List.drop_eq_getElem_cons h1
  conv => rhs; rw [← List.take_append_drop i es]
  rw [rangeE_app, rangeE_above (es := es.drop i), List.append_nil]
  intro e hem
  have hsd : Sorted (es.drop i) := List.Pairwise.sublist (List.drop_sublist _ _) hs
  rw [hd] at hem hsd
  rcases List.mem_cons.1 hem with rfl | hem
  · exact he
  · exact endI_up he ((List.pairwise_cons.1 hsd).1 e hem)
theorem take_snoc_prefix {α : Type} {l : List α} {n : Nat} {x : α} (h : l[n]? = some x) : l.take n ++ [x] <+: l := by
  have e : l.take (n + 1) = l.take n ++ [x] := by rw [List.take_add_one, h]; rfl
  rw [← e]; exact List.take_prefix _ _
structure LeafS (lo hi : ByteArray) (op : Bool) (es : List Ent) (At : World → Prop) (pre : List LE) (J : List LE → (Nat → Prop) → World → Prop) (C : Nat → Prop) (W : World) (i : Nat) (new : List LE) (C' : Nat → Prop) (Wj wr : World) : Prop where
  j : J (pre ++ new) C' Wj
  ext : Ext Wj wr
  new_ : new.map LE.ent = rangeE lo hi op (es.take i)
  st : St C W wr
  sub : ∀ b, C' b → C b ∨ W.heap.size < b
  box : Blk wr W.heap.size 150 #[.string lo, .string hi, .bool op]
  at_ : At wr
set_option maxRecDepth 100000 in
set_option maxHeartbeats 2000000 in
theorem walkLeaf_any {At : World → Prop} {F : Nat → Prop} {nv : Value} {es : List Ent} (hc : LeafC At nv es) (hagr : ∀ W W', At W → Agree F W W' → W.heap.size ≤ W'.heap.size → At W') (hsm : ∀ e ∈ es, e.1.size ≤ maxLen) {lo hi : ByteArray} {op : Bool} {all rest : List Ent} {pre : List LE}
    {l : Nat} {J : List LE → (Nat → Prop) → World → Prop} {Jx : List LE → World → Prop} (hT : Takes Tryz.prog l encE (ScanG all) J Jx) {C : Nat → Prop} {W0 W : World} (hJ : J pre C W0) (hx : Ext W0 W) (hw : At W) (hF : ∀ b, F b → b < W.heap.size ∧ ¬ C b) (hall : all = pre.map LE.ent ++ (rangeE lo hi op es ++ rest)) :
    Calls Tryz.prog 101 #[nv, inV lo hi op, .func (.yield l) #[] #[]] W (WalkPost lo hi op es all pre J Jx C W) := by
  obtain ⟨pp, rfl⟩ := hc.ptr
  have hl := hc.few
  have hCl := hT.lt pre C W0 hJ
  have hx1 : Ext W (W.alloc (.cells #[.string lo, .string hi, .bool op] 150)) := (Ext.refl W).alloc _ _
  have hb1 := Blk.new W 150 #[.string lo, .string hi, .bool op]
  have hbe := below_any hc (hc.ext hw hx1) lo
  obtain ⟨hp1, hp2⟩ := pos_split es lo hc.sorted
  obtain ⟨p, hp⟩ : ∃ p, posE es lo = p := ⟨_, rfl⟩
  rw [hp] at hbe hp1 hp2
  have hple : p ≤ es.length := by rw [← hp]; exact posE_le _ _
  have q0 : (W.alloc (.cells #[.string lo, .string hi, .bool op] 150)).cell? ⟨W.heap.size, 0, none⟩ = some (.string lo) := hb1.cell 0
  have HC := Lib.hid hc
  have HAG := Lib.hid hagr
  have HSM := Lib.hid hsm
  have HT := Lib.hid hT
  have HJ := Lib.hid hJ
  have HX := Lib.hid hx
  have HW := Lib.hid hw
  have HF := Lib.hid hF
  have HALL := Lib.hid hall
  have HB1 := Lib.hid hb1
  have HBE := Lib.hid hbe
  have HP1 := Lib.hid hp1
  have HP2 := Lib.hid hp2
  have HX1 := Lib.hid hx1
  have HCL := Lib.hid hCl
  clear hc hagr hsm hT hJ hx hw hF hall hbe hp1 hp2 hp hb1 hx1 hCl
  refine (callsIn_wide (n := 5)).1 ?_
  refine callsIn_of_wp Tryz.func101 rfl trivial ?_ rfl
  simp only [Tryz.ntmps101, List.size_toArray, List.length_cons, List.length_nil, Nat.reduceAdd, Nat.reduceSub, Array.replicate_succ, Array.replicate_zero, List.push_toArray, List.append_toArray, List.nil_append, List.cons_append]
  gi_wp2_with fail
  refine ⟨trivial, ?_⟩
  refine (callsIn_wide.2 HBE.out).mono ?_
  rintro e w1 ⟨rfl, hx2⟩
  have HX2 := Lib.hid (HX1.out.trans hx2)
  have HB2 := Lib.hid (HB1.out.ext hx2)
  clear hx2 q0 HBE
  gi_wp2_with fail
  gi_loopw [7] (fun v wr => ∃ (i : Nat) (new : List LE) (C' : Nat → Prop) (Wj : World), v = .int .i64 i ∧ p ≤ i ∧ i ≤ es.length ∧ LeafS lo hi op es At pre J C W i new C' Wj wr) (fun v _ => es.length - (intOf v).toNat)
  case atStart => exact ⟨p, [], C, W0, rfl, Nat.le_refl _, hple, ⟨by rw [List.append_nil]; exact HJ.out, HX.out.trans HX2.out, by rw [rangeE_below HP1.out]; rfl, HX2.out.st _, fun b hb => .inl hb, HB2.out, HC.out.ext HW.out HX2.out⟩⟩
  case round =>
    obtain ⟨i, new, C', Wj, rfl, hpi, hil, hS⟩ := hrel
    have HS := Lib.hid hS
    have hsz := HC.out.size wr hS.at_
    have HSZ := Lib.hid hsz
    clear hS hsz
    gi_wp2_with fail
    refine ⟨trivial, ?_⟩
    refine (callsIn_wide.2 HSZ.out).mono ?_
    rintro e w2 ⟨rfl, q, rfl⟩
    have hxq : Ext wr (wr.drewN q) := (Ext.refl wr).drewN q
    by_cases hlt : i < es.length
    · have g1 : (i : Int) < (es.length : Int) := by omega
      have g1' : decide ((i : Int) < (es.length : Int)) = true := decide_eq_true g1
      obtain ⟨x, hxi⟩ : ∃ x, es[i]? = some x := ⟨_, List.getElem?_eq_getElem hlt⟩
      have hen := HC.out.entry (wr.drewN q) (HC.out.ext HS.out.at_ hxq) i x hxi
      have HEN := Lib.hid hen
      have HXI := Lib.hid hxi
      clear hen hxi
      gi_wp2_with fail
      refine ⟨trivial, ?_⟩
      refine (callsIn_wide.2 HEN.out).mono ?_
      rintro e w3 ⟨sl, so, rfl, hx3, hrv⟩
      have hx4 : Ext w3 (w3.alloc (.cells #[.string x.1, .int .i64 x.2.kind, .bool x.2.b, .int .i64 x.2.i, .string x.2.t, .slice sl.a x.2.l.length sl.c, .slice so.a x.2.ok.length so.c] 47)) := (Ext.refl w3).alloc _ _
      have hb4 := Blk.new w3 47 #[.string x.1, .int .i64 x.2.kind, .bool x.2.b, .int .i64 x.2.i, .string x.2.t, .slice sl.a x.2.l.length sl.c, .slice so.a x.2.ok.length so.c]
      have HX4 := Lib.hid ((hxq.trans hx3).trans hx4)
      have HX34 := Lib.hid hx4
      have HB4 := Lib.hid hb4
      have HRV := Lib.hid hrv
      have hbx := HS.out.box.ext (hxq.trans hx3)
      have qb0 : w3.cell? ⟨W.heap.size, 0, none⟩ = some (.string lo) := hbx.cell 0
      have qb1 : w3.cell? ⟨W.heap.size, 1, none⟩ = some (.string hi) := hbx.cell 1
      have qb2 : w3.cell? ⟨W.heap.size, 2, none⟩ = some (.bool op) := hbx.cell 2
      have lb := hbx.lt
      clear hx3 hx4 hb4 hrv hbx
      gi_wp2_with fail
      refine ⟨trivial, ?_⟩
      refine (callsIn_wide.2 (ends_any _ lo hi op x.1)).mono ?_
      rintro e w5 ⟨rfl, hx5⟩
      have hX5 := HX4.out.trans hx5
      have hb5 := HB4.out.ext hx5
      obtain ⟨c0, c1, c2, c3, c4, c5, c6⟩ := hb5.c7
      have hat5 := HC.out.ext HS.out.at_ hX5
      have hbx5 := HS.out.box.ext hX5
      have hs4 := HX34.out.size
      have hs5 := hx5.size
      have hsj := HS.out.ext.size
      have hrv5 : RV w5 (In wr.heap.size w5.heap.size) x.2 sl so := ((HRV.out.agree (HX34.out.agree fun b hb => hb.2)).agree (hx5.agree fun b hb => by have := hb.2; omega)).mono fun b hb => ⟨hb.1, by have := hb.2; omega⟩
      have HX5 := Lib.hid hX5
      have HAT := Lib.hid hat5
      have HBX := Lib.hid hbx5
      have HRV5 := Lib.hid hrv5
      clear hx5 hX5 hb5 hat5 hbx5 hrv5 HRV HX4 HX34 HB4 qb0 qb1 qb2
      cases hend : endI hi op x.1 with
      | true =>
        gi_wp2_with fail
        refine ⟨fun _ h => absurd h (by simp), ?_⟩
        gi_wp2_with fail
        go_ret
        refine .inl ⟨new, C', Wj, .inr ⟨rfl, x, List.mem_of_getElem? HXI.out, hend⟩, HS.out.j, HS.out.ext.trans HX5.out, ?_, HS.out.st.ext HX5.out, fun b hb => (HS.out.sub b hb).imp_right Nat.le_of_lt⟩
        rw [HS.out.new_, rangeE_rest HC.out.sorted HXI.out hend]
      | false =>
        have hge : klt x.1 lo = false := HP2.out x (by
          obtain ⟨h1, rfl⟩ := List.getElem?_eq_some_iff.1 HXI.out
          rw [List.mem_iff_getElem?]
          exact ⟨i - p, by rw [List.getElem?_drop, Nat.add_sub_cancel' hpi]; exact HXI.out⟩)
        have hes : es = es.take i ++ x :: es.drop (i + 1) := by
          obtain ⟨h1, h2⟩ := List.getElem?_eq_some_iff.1 HXI.out
          conv => lhs; rw [← List.take_append_drop i es, List.drop_eq_getElem_cons h1, h2]
        obtain ⟨n1, n2, n3⟩ := scanG_next (x := ⟨x.1, x.2, sl, so⟩) (A := es.take i) (B := es.drop (i + 1)) (all := all) (rest := rest) (pre := pre) (by show all = pre.map LE.ent ++ (rangeE lo hi op (es.take i ++ x :: es.drop (i + 1)) ++ rest); rw [← hes]; exact HALL.out) HS.out.new_ hge hend
        have hy := HT.out.take (pre ++ new) C' ⟨x.1, x.2, sl, so⟩ Wj w5 HS.out.j (HS.out.ext.trans HX5.out) ⟨n1, n2, HRV5.out.mono fun b hb => ⟨by have := hb.1; omega, hb.2⟩, HSM.out x (List.mem_of_getElem? HXI.out)⟩
        obtain ⟨fn, tmps, assign, body, hy, hR⟩ := hy
        have HR := Lib.hid hR
        have HN1 := Lib.hid n1
        have HN2 := Lib.hid n2
        have HN3 := Lib.hid n3
        have HES := Lib.hid hes
        clear hR n1 n2 n3 hes
        dsimp only [encE] at hy
        gi_wp2_with fail
        refine HR.out.mono ?_
        rintro e w6 (⟨rfl, C6, hj6, hst6, hsub6⟩ | ⟨rfl, hjx, hst6⟩)
        · have hj6' : J (pre ++ (new ++ [⟨x.1, x.2, sl, so⟩])) C6 w6 := by rw [← List.append_assoc]; exact hj6
          have hWC : ∀ b, b ≤ W.heap.size → C' b → C b := fun b hb h => by
            rcases HS.out.sub b h with h | h
            · exact h
            · omega
          have hWC0 : ¬ C' W.heap.size := fun h => by
            have h1 := HCL.out _ (hWC _ (Nat.le_refl _) h)
            have := HX.out.size; omega
          have HS6 := Lib.hid (show LeafS lo hi op es At pre J C W (i + 1) (new ++ [⟨x.1, x.2, sl, so⟩]) C6 w6 w6 from
            ⟨hj6', Ext.refl _, by rw [HN3.out, List.take_add_one, HXI.out]; rfl, (HS.out.st.ext HX5.out).then hst6 (fun b hb h => hWC b (Nat.le_of_lt hb) h), fun b hb => by
              rcases hsub6 b hb with h | h
              · exact HS.out.sub b h
              · exact .inr (by omega), hst6.blk HBX.out hWC0, HAG.out w5 w6 HAT.out (hst6.agree.mono fun b hb => ⟨by have := (HF.out b hb).1; omega, fun h => (HF.out b hb).2 (hWC b (Nat.le_of_lt (HF.out b hb).1) h)⟩) hst6.size⟩)
          clear hj6 hst6 hsub6 hj6' hWC hWC0 hy
          gi_wp2_with fail
          go_roundw
          case rel => exact ⟨i + 1, _, C6, w6, by go_num, by omega, hlt, HS6.out⟩
          case measure => simp [intOf]; omega
        · gi_wp2_with fail
          go_ret
          have hst : St C W w6 := (HS.out.st.ext HX5.out).then hst6 fun b hb h => by
            rcases HS.out.sub b h with h | h
            · exact h
            · omega
          exact .inr ⟨rfl, hst, _, w6, hjx, Ext.refl _, by
            rw [List.map_append, HN2.out]
            exact take_snoc_prefix HN1.out⟩
    · obtain rfl : i = es.length := by omega
      gi_wp2_with fail
      go_ret
      refine .inl ⟨new, C', Wj, .inl rfl, HS.out.j, HS.out.ext.trans hxq, ?_, HS.out.st.ext hxq, fun b hb => (HS.out.sub b hb).imp_right Nat.le_of_lt⟩
      rw [HS.out.new_, List.take_length]
theorem keys_small {w : World} {F : Nat → Prop} : ∀ {h : Nat} {t : PT h}, IsN w F h t → ∀ e ∈ ents h t, e.1.size ≤ maxLen
  | 0, t, ⟨_, s, xs, _, h3, h4⟩, e, he => by
    have he : e ∈ t.2 := he
    rw [← h4] at he
    obtain ⟨x, hx, rfl⟩ := List.mem_map.1 he
    exact (h3.vals x hx).2
  | h + 1, t, ⟨_, s, _, _, h4⟩, e, he => by
    have he : e ∈ t.2.flatMap (ents h) := he
    obtain ⟨k, hk, he⟩ := List.mem_flatMap.1 he
    exact keys_small (h4 k hk) e he
set_option maxRecDepth 100000 in
set_option maxHeartbeats 2000000 in
theorem walk_leaf {At : World → Prop} {F : Nat → Prop} {nv : Value} {es : List Ent} (hc : LeafC At nv es) (hagr : ∀ W W', At W → Agree F W W' → W.heap.size ≤ W'.heap.size → At W') (hsm : ∀ e ∈ es, e.1.size ≤ maxLen) {lo hi : ByteArray} {op : Bool} {all rest : List Ent} {pre : List LE}
    {l : Nat} {J : List LE → (Nat → Prop) → World → Prop} {Jx : List LE → World → Prop} (hT : Takes Tryz.prog l encE (ScanG all) J Jx) {C : Nat → Prop} {W0 W : World} (hJ : J pre C W0) (hx : Ext W0 W) (hw : At W) (hF : ∀ b, F b → b < W.heap.size ∧ ¬ C b) (hall : all = pre.map LE.ent ++ (rangeE lo hi op es ++ rest)) :
    Calls Tryz.prog 73 #[nv, inV lo hi op, .func (.yield l) #[] #[]] W (WalkPost lo hi op es all pre J Jx C W) := by
  have hx1 : Ext W (W.alloc (.cells #[.string lo, .string hi, .bool op] 150)) := (Ext.refl W).alloc _ _
  have hh := hc.height _ (hc.ext hw hx1)
  have hwl := walkLeaf_any hc hagr hsm hT hJ (hx.trans hx1) (hc.ext hw hx1) (fun b hb => ⟨Nat.lt_of_lt_of_le (hF b hb).1 hx1.size, (hF b hb).2⟩) hall
  obtain ⟨pp, rfl⟩ := hc.ptr
  have HWL := Lib.hid hwl
  have HX1 := Lib.hid hx1
  clear hc hagr hsm hT hJ hx hw hF hall hwl hx1
  go_enter Tryz.func73, Tryz.ntmps73
  go_wp2_with fail
  refine hh.mono ?_
  rintro e w1 ⟨rfl, rfl⟩
  go_wp2_with fail
  refine HWL.out.mono ?_
  rintro e w2 hp
  obtain ⟨b, rfl⟩ := hp.bool
  have HP := Lib.hid (hp.from HX1.out)
  clear hp
  go_wp2_with fail
  go_ret
  exact HP.out
structure NodeS (lo hi : ByteArray) (op : Bool) (F : Nat → Prop) (h : Nat) (t : PT (h + 1)) (pre : List LE) (J : List LE → (Nat → Prop) → World → Prop) (C : Nat → Prop) (W w3 : World) (g : Nat) (j : Nat) (new : List LE) (C' : Nat → Prop) (Wj wr : World) : Prop where
  j_ : J (pre ++ new) C' Wj
  ext : Ext Wj wr
  new_ : new.map LE.ent = rangeE lo hi op ((t.2.take j).flatMap (ents h))
  st : St C W wr
  sub : ∀ b, C' b → C b ∨ w3.heap.size ≤ b
  big : w3.heap.size ≤ wr.heap.size
  box : Blk wr W.heap.size 150 #[.string lo, .string hi, .bool op]
  rows : ∀ o, wr.cell? ⟨g, o, none⟩ = w3.cell? ⟨g, o, none⟩
  at_ : NodeAt F (h + 1) t wr
set_option maxRecDepth 100000 in
set_option maxHeartbeats 4000000 in
theorem walk_succ {F : Nat → Prop} {lo hi : ByteArray} {op : Bool} {all : List Ent} {l : Nat} {J : List LE → (Nat → Prop) → World → Prop} {Jx : List LE → World → Prop} (hT : Takes Tryz.prog l encE (ScanG all) J Jx) {h : Nat}
    (ih : ∀ (t : PT h) (pre : List LE) (rest : List Ent) (C : Nat → Prop) (W0 W : World), J pre C W0 → Ext W0 W → NodeAt F h t W → (∀ b, F b → ¬ C b) → OkT h t → Sorted (ents h t) → (ents h t).length ≤ 1000000 → all = pre.map LE.ent ++ (rangeE lo hi op (ents h t) ++ rest) →
      Calls Tryz.prog 73 #[ptr h t, inV lo hi op, .func (.yield l) #[] #[]] W (WalkPost lo hi op (ents h t) all pre J Jx C W))
    {t : PT (h + 1)} {pre : List LE} {rest : List Ent} {C : Nat → Prop} {W0 W : World} (hJ : J pre C W0) (hx : Ext W0 W) (hn : NodeAt F (h + 1) t W) (hF : ∀ b, F b → ¬ C b) (ok : OkT (h + 1) t) (hs : Sorted (ents (h + 1) t)) (hl : (ents (h + 1) t).length ≤ 1000000) (hall : all = pre.map LE.ent ++ (rangeE lo hi op (ents (h + 1) t) ++ rest)) :
    Calls Tryz.prog 73 #[ptr (h + 1) t, inV lo hi op, .func (.yield l) #[] #[]] W (WalkPost lo hi op (ents (h + 1) t) all pre J Jx C W) := by
  have hlen8 := ok.2.1
  have hlen2 := ok.1
  have hCl := hT.lt pre C W0 hJ
  have hx1 : Ext W (W.alloc (.cells #[.string lo, .string hi, .bool op] 150)) := (Ext.refl W).alloc _ _
  have hb1 := Blk.new W 150 #[.string lo, .string hi, .bool op]
  have hh := height_any (hn.ext hx1).1
  have hkc := kids_any (hn.ext hx1).1 (by omega)
  have hhm : h + 1 < 1000000 := Nat.lt_of_lt_of_le (height_lt (h + 1) t ok (by show 1 ≤ t.2.length; omega)) hl
  have hne : (((h + 1 : Nat) : Int) == 0) = false := beq_eq_false_iff_ne.2 (by omega)
  have hne' : ((h : Int) + 1 == 0) = false := beq_eq_false_iff_ne.2 (by omega)
  have HT := Lib.hid hT
  have HIH := Lib.hid ih
  have HJ := Lib.hid hJ
  have HX := Lib.hid hx
  have HN := Lib.hid hn
  have HF := Lib.hid hF
  have HOK := Lib.hid ok
  have HS := Lib.hid hs
  have HL := Lib.hid hl
  have HALL := Lib.hid hall
  have HX1 := Lib.hid hx1
  have HB1 := Lib.hid hb1
  have HCL := Lib.hid hCl
  clear hT ih hJ hx hn hF ok hs hl hall hx1 hb1 hCl
  refine (callsIn_wide (n := 5)).1 ?_
  refine callsIn_of_wp Tryz.func73 rfl trivial ?_ rfl
  simp only [Tryz.ntmps73, List.size_toArray, List.length_cons, List.length_nil, Nat.reduceAdd, Nat.reduceSub, Array.replicate_succ, Array.replicate_zero, List.push_toArray, List.append_toArray, List.nil_append, List.cons_append]
  gi_wp2_with fail
  refine ⟨trivial, ?_⟩
  refine (callsIn_wide.2 hh).mono ?_
  rintro e w1 ⟨rfl, rfl⟩
  gi_wp2_with fail
  refine ⟨trivial, ?_⟩
  refine (callsIn_wide.2 hkc).mono ?_
  rintro e w3 ⟨sk, rfl, hown, hx3⟩
  have hrd : Rd w3 (Lt w3.heap.size) 1 sk t.2.length (ptrs h t.2) := (Rd.of_own hown).mono fun i hi => hi.2
  obtain ⟨g, cap, rfl, hbg, hnc, hcm, hfil⟩ := own_block hown (by omega)
  have hgl := hfil.lt
  have hWg : W.heap.size < g := by simp at hbg; omega
  have HRD := Lib.hid hrd
  have HX3 := Lib.hid (HX1.out.trans hx3)
  have HB3 := Lib.hid (HB1.out.ext hx3)
  have hs3 := HX3.out.size
  have hs0 := HX.out.size
  clear hown hrd hx3 hfil hkc hh HB1 HX1
  gi_wp2_with fail
  gi_loopw [19] (fun v wr => ∃ (j : Nat) (new : List LE) (C' : Nat → Prop) (Wj : World), v = .int .i64 j ∧ j ≤ t.2.length ∧ NodeS lo hi op F h t pre J C W w3 g j new C' Wj wr) (fun v _ => t.2.length - (intOf v).toNat)
  case atStart => exact ⟨0, [], C, W0, rfl, Nat.zero_le _, ⟨by rw [List.append_nil]; exact HJ.out, HX.out.trans HX3.out, rfl, HX3.out.st _, fun b hb => .inl hb, Nat.le_refl _, HB3.out, fun _ => rfl, HN.out.ext HX3.out⟩⟩
  case round =>
    obtain ⟨j, new, C', Wj, rfl, hj, hS⟩ := hrel
    have HSN := Lib.hid hS
    clear hS
    by_cases hlt : j < t.2.length
    · obtain ⟨kid, hkid⟩ : ∃ kid, t.2[j]? = some kid := ⟨_, List.getElem?_eq_getElem hlt⟩
      obtain ⟨b, o', hba, -, -, -, hbc⟩ := HRD.out.ptr_at hkid
      obtain ⟨rfl, rfl⟩ : g = b ∧ 0 = o' := by simpa using hba
      have kc : wr.cell? ⟨g, j, none⟩ = some (ptr h kid) := by rw [HSN.out.rows]; simpa using hbc
      have hjl : (j : Int) < (t.2.length : Int) := by omega
      have hkm := List.mem_of_getElem? hkid
      have hkn : NodeAt F h kid wr := ⟨HSN.out.at_.1.2.choose_spec.2.2 kid hkm, HSN.out.at_.2⟩
      have hks : Sorted (ents h kid) := kid_sorted HS.out kid hkm
      have hmid := take_mid hkid
      have hent : ents (h + 1) t = (t.2.take j).flatMap (ents h) ++ (ents h kid ++ (t.2.drop (j + 1)).flatMap (ents h)) := by
        show t.2.flatMap (ents h) = _
        conv => lhs; rw [hmid]
        simp only [List.flatMap_append, List.flatMap_cons]
      have hlk : (ents h kid).length ≤ 1000000 := by have := HL.out; rw [hent] at this; simp only [List.length_append] at this; omega
      have hsnoc : (t.2.take (j + 1)).flatMap (ents h) = (t.2.take j).flatMap (ents h) ++ ents h kid := by rw [List.take_add_one, hkid]; simp
      have HLAST := Lib.hid (fun W1 (hW : Ext wr W1) => last_any (hkn.ext hW).1)
      have HFIRST := Lib.hid (fun W1 (hW : Ext wr W1) => first_any (hkn.ext hW).1)
      have hbox := HSN.out.box
      have HSS := Lib.hid (show ∀ W1, Ext wr W1 → W1.cell? ⟨W.heap.size, 0, none⟩ = some (.string lo) ∧ W1.cell? ⟨W.heap.size, 1, none⟩ = some (.string hi) ∧ W1.cell? ⟨W.heap.size, 2, none⟩ = some (.bool op) from fun W1 hW => ⟨(hbox.ext hW).cell 0, (hbox.ext hW).cell 1, (hbox.ext hW).cell 2⟩)
      have HKN := Lib.hid hkn
      have HKS := Lib.hid hks
      have HENT := Lib.hid hent
      have HSNOC := Lib.hid hsnoc
      clear hkid hba hbc hkn hks hmid hent hsnoc hbox
      cases hlb : klt (lastK (ents h kid)) lo with
      | true =>
        have hb1 : Op.bytesLess (lastK (ents h kid)).toList lo.toList = true := hlb
        gi_wp2_with fail
        refine wpIn_wide.2 ?_
        refine wp_region_held_drew (S := (fun w' => Ext wr w')) (by kernel_rfl) (((Ext.refl wr).drew)) (fun hHeld => ?_)
        refine held_on (i := 0) (d := (some 24)) (v := ?_) rfl rfl (by kernel_rfl) (by kernel_rfl) (by kernel_rfl) (fun _ _ _ h => h) (by rfl) hHeld ?_ ?_
        rotate_left
        focus (intro w hSw; have hSc := HSS.out w hSw; clear hSw; go_simp; first | done | with_reducible rfl)
        try simp only [Act.put, List.setIfInBounds_toArray, List.set_cons_zero, List.set_cons_succ]
        refine held_on (i := 2) (d := (some 26)) (v := ?_) rfl rfl (by kernel_rfl) (by kernel_rfl) (by kernel_rfl) (fun _ _ _ h => h) (by rfl) hHeld ?_ ?_
        rotate_left
        focus (intro w hSw; have hSc := HSS.out w hSw; clear hSw; go_simp; first | done | with_reducible rfl)
        try simp only [Act.put, List.setIfInBounds_toArray, List.set_cons_zero, List.set_cons_succ]
        refine held_on (i := 3) (d := (some 27)) (v := ?_) rfl rfl (by kernel_rfl) (by kernel_rfl) (by kernel_rfl) (fun _ _ _ h => h) (by rfl) hHeld ?_ ?_
        rotate_left
        focus (intro w hSw; have hSc := HSS.out w hSw; clear hSw; go_simp; first | done | with_reducible rfl)
        try simp only [Act.put, List.setIfInBounds_toArray, List.set_cons_zero, List.set_cons_succ]
        refine held_call (i := 1) (by kernel_rfl) rfl (by rfl) (fun K hK => ?_)
        go_simp
        (refine (HLAST.out _ hHeld).mono ?_; rintro e w5 ⟨rfl, rfl⟩)
        refine hK.out _ _ (hHeld) (fun hHeld => ?_)
        clear hK K
        try simp only [Act.put, List.setIfInBounds_toArray, List.set_cons_zero, List.set_cons_succ]
        refine held_on (i := 4) (d := (some 28)) (v := ?_) rfl rfl (by kernel_rfl) (by kernel_rfl) (by kernel_rfl) (fun _ _ _ h => h) (by rfl) hHeld ?_ ?_
        rotate_left
        focus (intro w hSw; have hSc := HSS.out w hSw; clear hSw; go_simp; first | done | with_reducible rfl)
        try simp only [Act.put, List.setIfInBounds_toArray, List.set_cons_zero, List.set_cons_succ]
        refine held_on (i := 5) (d := (some 23)) (v := ?_) rfl rfl (by kernel_rfl) (by kernel_rfl) (by kernel_rfl) (fun _ _ _ h => h) (by rfl) hHeld ?_ ?_
        rotate_left
        focus (intro w hSw; have hSc := HSS.out w hSw; clear hSw; go_simp; first | done | with_reducible rfl)
        try simp only [Act.put, List.setIfInBounds_toArray, List.set_cons_zero, List.set_cons_succ]
        refine wpAnyH_done (by kernel_rfl) ?_ _
        have HX5 := Lib.hid hHeld
        clear hHeld
        have HS6 := Lib.hid (show NodeS lo hi op F h t pre J C W w3 g (j + 1) new C' Wj wr.drew from
          ⟨HSN.out.j_, HSN.out.ext.trans HX5.out, by rw [HSN.out.new_, HSNOC.out, rangeE_app, rangeE_below (lt_of_last HKS.out hlb), List.append_nil], HSN.out.st.ext HX5.out, HSN.out.sub, by have := HX5.out.size; have := HSN.out.big; omega, HSN.out.box.ext HX5.out, fun o => (HX5.out.cell (by have := HSN.out.big; omega)).trans (HSN.out.rows o), HSN.out.at_.ext HX5.out⟩)
        generalize wr.drew = w6 at *
        gi_wp2_with fail
        go_roundw
        case rel => exact ⟨j + 1, new, C', Wj, by go_num, hlt, HS6.out⟩
        case measure => simp [intOf]; omega
      | false =>
        have hb1 : Op.bytesLess (lastK (ents h kid)).toList lo.toList = false := hlb
        gi_wp2_with fail
        refine wpIn_wide.2 ?_
        refine wp_region_held_drew (S := (fun w' => Ext wr w')) (by kernel_rfl) (((Ext.refl wr).drew)) (fun hHeld => ?_)
        refine held_on (i := 0) (d := (some 24)) (v := ?_) rfl rfl (by kernel_rfl) (by kernel_rfl) (by kernel_rfl) (fun _ _ _ h => h) (by rfl) hHeld ?_ ?_
        rotate_left
        focus (intro w hSw; have hSc := HSS.out w hSw; clear hSw; go_simp; first | done | with_reducible rfl)
        try simp only [Act.put, List.setIfInBounds_toArray, List.set_cons_zero, List.set_cons_succ]
        refine held_on (i := 2) (d := (some 26)) (v := ?_) rfl rfl (by kernel_rfl) (by kernel_rfl) (by kernel_rfl) (fun _ _ _ h => h) (by rfl) hHeld ?_ ?_
        rotate_left
        focus (intro w hSw; have hSc := HSS.out w hSw; clear hSw; go_simp; first | done | with_reducible rfl)
        try simp only [Act.put, List.setIfInBounds_toArray, List.set_cons_zero, List.set_cons_succ]
        refine held_on (i := 3) (d := (some 27)) (v := ?_) rfl rfl (by kernel_rfl) (by kernel_rfl) (by kernel_rfl) (fun _ _ _ h => h) (by rfl) hHeld ?_ ?_
        rotate_left
        focus (intro w hSw; have hSc := HSS.out w hSw; clear hSw; go_simp; first | done | with_reducible rfl)
        try simp only [Act.put, List.setIfInBounds_toArray, List.set_cons_zero, List.set_cons_succ]
        refine held_call (i := 1) (by kernel_rfl) rfl (by rfl) (fun K hK => ?_)
        go_simp
        (refine (HLAST.out _ hHeld).mono ?_; rintro e w5 ⟨rfl, rfl⟩)
        refine hK.out _ _ (hHeld) (fun hHeld => ?_)
        clear hK K
        try simp only [Act.put, List.setIfInBounds_toArray, List.set_cons_zero, List.set_cons_succ]
        refine held_on (i := 4) (d := (some 28)) (v := ?_) rfl rfl (by kernel_rfl) (by kernel_rfl) (by kernel_rfl) (fun _ _ _ h => h) (by rfl) hHeld ?_ ?_
        rotate_left
        focus (intro w hSw; have hSc := HSS.out w hSw; clear hSw; go_simp; first | done | with_reducible rfl)
        try simp only [Act.put, List.setIfInBounds_toArray, List.set_cons_zero, List.set_cons_succ]
        refine held_on (i := 5) (d := (some 23)) (v := ?_) rfl rfl (by kernel_rfl) (by kernel_rfl) (by kernel_rfl) (fun _ _ _ h => h) (by rfl) hHeld ?_ ?_
        rotate_left
        focus (intro w hSw; have hSc := HSS.out w hSw; clear hSw; go_simp; first | done | with_reducible rfl)
        try simp only [Act.put, List.setIfInBounds_toArray, List.set_cons_zero, List.set_cons_succ]
        refine wpAnyH_done (by kernel_rfl) ?_ _
        cases hend : endI hi op (firstK (ents h kid)) with
        | true =>
          have HEND := Lib.hid (show ∀ W1, Calls Tryz.prog 103 #[inV lo hi op, .string (firstK (ents h kid))] W1 fun e w' => e = .returned (.bool true) ∧ Ext W1 w' from fun W1 => by have := ends_any W1 lo hi op (firstK (ents h kid)); rwa [hend] at this)
          gi_wp2_with fail
          refine wpIn_wide.2 ?_
          refine wp_region_held_drew (S := (fun w' => Ext wr w')) (by kernel_rfl) ((hHeld.drew)) (fun hHeld => ?_)
          refine held_on (i := 0) (d := (some 30)) (v := ?_) rfl rfl (by kernel_rfl) (by kernel_rfl) (by kernel_rfl) (fun _ _ _ h => h) (by rfl) hHeld ?_ ?_
          rotate_left
          focus (intro w hSw; have hSc := HSS.out w hSw; clear hSw; go_simp; first | done | with_reducible rfl)
          try simp only [Act.put, List.setIfInBounds_toArray, List.set_cons_zero, List.set_cons_succ]
          refine held_on (i := 1) (d := (some 31)) (v := ?_) rfl rfl (by kernel_rfl) (by kernel_rfl) (by kernel_rfl) (fun _ _ _ h => h) (by rfl) hHeld ?_ ?_
          rotate_left
          focus (intro w hSw; have hSc := HSS.out w hSw; clear hSw; go_simp; first | done | with_reducible rfl)
          try simp only [Act.put, List.setIfInBounds_toArray, List.set_cons_zero, List.set_cons_succ]
          refine held_call (i := 2) (by kernel_rfl) rfl (by rfl) (fun K hK => ?_)
          go_simp
          (refine (HFIRST.out _ hHeld).mono ?_; rintro e w6 ⟨rfl, rfl⟩)
          refine hK.out _ _ (hHeld) (fun hHeld => ?_)
          clear hK K
          try simp only [Act.put, List.setIfInBounds_toArray, List.set_cons_zero, List.set_cons_succ]
          refine held_call (i := 3) (by kernel_rfl) rfl (by rfl) (fun K hK => ?_)
          go_simp
          (refine (HEND.out _).mono ?_; rintro e w7 ⟨rfl, hx7⟩)
          refine hK.out _ _ (hHeld.trans hx7) (fun hHeld => ?_)
          clear hK K
          try simp only [Act.put, List.setIfInBounds_toArray, List.set_cons_zero, List.set_cons_succ]
          refine held_on (i := 4) (d := (some 29)) (v := ?_) rfl rfl (by kernel_rfl) (by kernel_rfl) (by kernel_rfl) (fun _ _ _ h => h) (by rfl) hHeld ?_ ?_
          rotate_left
          focus (intro w hSw; have hSc := HSS.out w hSw; clear hSw; go_simp; first | done | with_reducible rfl)
          try simp only [Act.put, List.setIfInBounds_toArray, List.set_cons_zero, List.set_cons_succ]
          refine wpAnyH_done (by kernel_rfl) ?_ _
          have HX7 := Lib.hid hHeld
          clear hHeld hx7
          gi_wp2_with fail
          go_ret
          have hne0 := kid_ne HOK.out hkm
          obtain ⟨x, hxm⟩ := List.exists_mem_of_ne_nil _ hne0
          have hxe := end_of_first HKS.out hend x hxm
          refine .inl ⟨new, C', Wj, .inr ⟨rfl, x, by rw [HENT.out]; simp [hxm], hxe⟩, HSN.out.j_, HSN.out.ext.trans HX7.out, ?_, HSN.out.st.ext HX7.out, fun b hb => (HSN.out.sub b hb).imp_right fun h => by omega⟩
          have hsd := HS.out
          rw [HENT.out] at hsd
          rw [HSN.out.new_, HENT.out, rangeE_app, rangeE_app, rangeE_above (end_of_first HKS.out hend), rangeE_behind (A := ents h kid) (sorted_app hsd).2.1 ⟨x, hxm, hxe⟩, List.append_nil, List.append_nil]
        | false =>
          have HEND := Lib.hid (show ∀ W1, Calls Tryz.prog 103 #[inV lo hi op, .string (firstK (ents h kid))] W1 fun e w' => e = .returned (.bool false) ∧ Ext W1 w' from fun W1 => by have := ends_any W1 lo hi op (firstK (ents h kid)); rwa [hend] at this)
          gi_wp2_with fail
          refine wpIn_wide.2 ?_
          refine wp_region_held_drew (S := (fun w' => Ext wr w')) (by kernel_rfl) ((hHeld.drew)) (fun hHeld => ?_)
          refine held_on (i := 0) (d := (some 30)) (v := ?_) rfl rfl (by kernel_rfl) (by kernel_rfl) (by kernel_rfl) (fun _ _ _ h => h) (by rfl) hHeld ?_ ?_
          rotate_left
          focus (intro w hSw; have hSc := HSS.out w hSw; clear hSw; go_simp; first | done | with_reducible rfl)
          try simp only [Act.put, List.setIfInBounds_toArray, List.set_cons_zero, List.set_cons_succ]
          refine held_on (i := 1) (d := (some 31)) (v := ?_) rfl rfl (by kernel_rfl) (by kernel_rfl) (by kernel_rfl) (fun _ _ _ h => h) (by rfl) hHeld ?_ ?_
          rotate_left
          focus (intro w hSw; have hSc := HSS.out w hSw; clear hSw; go_simp; first | done | with_reducible rfl)
          try simp only [Act.put, List.setIfInBounds_toArray, List.set_cons_zero, List.set_cons_succ]
          refine held_call (i := 2) (by kernel_rfl) rfl (by rfl) (fun K hK => ?_)
          go_simp
          (refine (HFIRST.out _ hHeld).mono ?_; rintro e w6 ⟨rfl, rfl⟩)
          refine hK.out _ _ (hHeld) (fun hHeld => ?_)
          clear hK K
          try simp only [Act.put, List.setIfInBounds_toArray, List.set_cons_zero, List.set_cons_succ]
          refine held_call (i := 3) (by kernel_rfl) rfl (by rfl) (fun K hK => ?_)
          go_simp
          (refine (HEND.out _).mono ?_; rintro e w7 ⟨rfl, hx7⟩)
          refine hK.out _ _ (hHeld.trans hx7) (fun hHeld => ?_)
          clear hK K
          try simp only [Act.put, List.setIfInBounds_toArray, List.set_cons_zero, List.set_cons_succ]
          refine held_on (i := 4) (d := (some 29)) (v := ?_) rfl rfl (by kernel_rfl) (by kernel_rfl) (by kernel_rfl) (fun _ _ _ h => h) (by rfl) hHeld ?_ ?_
          rotate_left
          focus (intro w hSw; have hSc := HSS.out w hSw; clear hSw; go_simp; first | done | with_reducible rfl)
          try simp only [Act.put, List.setIfInBounds_toArray, List.set_cons_zero, List.set_cons_succ]
          refine wpAnyH_done (by kernel_rfl) ?_ _
          have HX7 := Lib.hid hHeld
          obtain ⟨q0, q1, q2⟩ := HSS.out w7 hHeld
          have hFC : ∀ b, F b → ¬ C' b := fun b hb h => by
            rcases HSN.out.sub b h with h | h
            · exact HF.out b hb h
            · have := (HN.out.2 b hb); omega
          have hic := HIH.out kid (pre ++ new) (rangeE lo hi op ((t.2.drop (j + 1)).flatMap (ents h)) ++ rest) C' Wj w7 HSN.out.j_ (HSN.out.ext.trans HX7.out) (HKN.out.ext HX7.out) hFC (HOK.out.2.2 kid hkm).1 HKS.out hlk (by
            rw [HALL.out, HENT.out, List.map_append, HSN.out.new_, rangeE_app, rangeE_app]
            simp only [List.append_assoc])
          have HIC := Lib.hid hic
          have hs7 := HX7.out.size
          clear hHeld hx7 hFC hic
          gi_wp2_with fail
          refine ⟨trivial, ?_⟩
          refine (callsIn_wide.2 HIC.out).mono ?_
          rintro e w8 (⟨new', C8, W8, hb8, hj8, hx8, hn8, hst8, hsub8⟩ | ⟨rfl, hst8, pre', W8, hj8, hx8, hp8⟩)
          · have hst : St C W w8 := (HSN.out.st.ext HX7.out).then hst8 fun b hb h => by
              rcases HSN.out.sub b h with h | h
              · exact h
              · omega
            have hsub : ∀ b, C8 b → C b ∨ w3.heap.size ≤ b := fun b hb => by
              rcases hsub8 b hb with h | h
              · exact HSN.out.sub b h
              · exact .inr (by have := HSN.out.big; omega)
            have hj8' : J (pre ++ (new ++ new')) C8 W8 := by rw [← List.append_assoc]; exact hj8
            have hn8' : (new ++ new').map LE.ent = rangeE lo hi op ((t.2.take (j + 1)).flatMap (ents h)) := by rw [List.map_append, HSN.out.new_, hn8, HSNOC.out, rangeE_app]
            rcases hb8 with rfl | ⟨rfl, x, hxm, hxe⟩
            · have hnC : ∀ b, b < w3.heap.size → W.heap.size ≤ b → ¬ C' b := fun b h1 h2 h => by
                rcases HSN.out.sub b h with h | h
                · have := HCL.out b h; omega
                · omega
              have HS8 := Lib.hid (show NodeS lo hi op F h t pre J C W w3 g (j + 1) (new ++ new') C8 W8 w8 from
                ⟨hj8', hx8, hn8', hst, hsub, by have := hst8.size; have := HSN.out.big; omega, hst8.blk (HSN.out.box.ext HX7.out) (hnC _ (by omega) (Nat.le_refl _)),
                  fun o => (hst8.cell (by have := HSN.out.big; omega) (hnC _ hgl (by omega))).trans ((HX7.out.cell (by have := HSN.out.big; omega)).trans (HSN.out.rows o)),
                  ⟨(HSN.out.at_.ext HX7.out).1.agree (hst8.agree.mono fun b hb => ⟨by have := (HSN.out.at_.ext HX7.out).2 b hb; omega, fun h => by
                    rcases HSN.out.sub b h with h | h
                    · exact HF.out b hb h
                    · have := (HN.out.2 b hb); omega⟩), fun b hb => by have := hst8.size; have := HN.out.2 b hb; have := HSN.out.big; omega⟩⟩)
              clear hst hsub hj8' hn8' hj8 hx8 hn8 hst8 hsub8 hnC
              gi_wp2_with fail
              go_roundw
              case rel => exact ⟨j + 1, _, C8, W8, by go_num, hlt, HS8.out⟩
              case measure => simp [intOf]; omega
            · clear hst8 hsub8 hn8 hj8
              gi_wp2_with fail
              go_ret
              refine .inl ⟨new ++ new', C8, W8, .inr ⟨rfl, x, by rw [HENT.out]; simp [hxm], hxe⟩, hj8', hx8, ?_, hst, fun b hb => (hsub b hb).imp_right fun h => by omega⟩
              have hsd := HS.out
              rw [HENT.out] at hsd
              rw [hn8', HSNOC.out, HENT.out, rangeE_app, rangeE_app, rangeE_app, rangeE_behind (A := ents h kid) (sorted_app hsd).2.1 ⟨x, hxm, hxe⟩, List.append_nil]
          · gi_wp2_with fail
            go_ret
            exact .inr ⟨rfl, (HSN.out.st.ext HX7.out).then hst8 (fun b hb h => by
              rcases HSN.out.sub b h with h | h
              · exact h
              · omega), pre', W8, hj8, hx8, hp8⟩
    · obtain rfl : j = t.2.length := by omega
      gi_wp2_with fail
      go_ret
      refine .inl ⟨new, C', Wj, .inl rfl, HSN.out.j_, HSN.out.ext, ?_, HSN.out.st, fun b hb => (HSN.out.sub b hb).imp_right fun h => by omega⟩
      rw [HSN.out.new_, List.take_length]; rfl
theorem walk_any {F : Nat → Prop} {lo hi : ByteArray} {op : Bool} {all : List Ent} {l : Nat} {J : List LE → (Nat → Prop) → World → Prop} {Jx : List LE → World → Prop} (hT : Takes Tryz.prog l encE (ScanG all) J Jx) :
    ∀ (h : Nat) (t : PT h) (pre : List LE) (rest : List Ent) (C : Nat → Prop) (W0 W : World), J pre C W0 → Ext W0 W → NodeAt F h t W → (∀ b, F b → ¬ C b) → OkT h t → Sorted (ents h t) → (ents h t).length ≤ 1000000 → all = pre.map LE.ent ++ (rangeE lo hi op (ents h t) ++ rest) →
      Calls Tryz.prog 73 #[ptr h t, inV lo hi op, .func (.yield l) #[] #[]] W (WalkPost lo hi op (ents h t) all pre J Jx C W)
  | 0, t, pre, rest, C, W0, W, hJ, hx, hn, hF, ok, hs, _, hall =>
    walk_leaf (F := F) (leafC_node ok hs) (fun W W' a ha hz => ⟨a.1.agree ha, fun b hb => Nat.lt_of_lt_of_le (a.2 b hb) hz⟩) (keys_small hn.1) hT hJ hx hn (fun b hb => ⟨hn.2 b hb, hF b hb⟩) hall
  | h + 1, t, pre, rest, C, W0, W, hJ, hx, hn, hF, ok, hs, hl, hall =>
    walk_succ hT (fun t pre rest C W0 W a b c d e f g i => walk_any hT h t pre rest C W0 W a b c d e f g i) hJ hx hn hF ok hs hl hall
theorem walkR_any {F : Nat → Prop} {lo hi : ByteArray} {op : Bool} {l : Nat} {J : List LE → (Nat → Prop) → World → Prop} {Jx : List LE → World → Prop} {T : RT} (hT : Takes Tryz.prog l encE (ScanG (rangeE lo hi op (entsT T))) J Jx)
    {C : Nat → Prop} {W0 W : World} (hJ : J [] C W0) (hx : Ext W0 W) (hn : TreeAt F T W) (hF : ∀ b, F b → ¬ C b) (ok : OkR T) (hl : (entsT T).length ≤ 1000000) :
    Calls Tryz.prog 73 #[rootV T, inV lo hi op, .func (.yield l) #[] #[]] W (WalkPost lo hi op (entsT T) (rangeE lo hi op (entsT T)) [] J Jx C W) := by
  match T, hn, ok, hl with
  | none, _, _, _ => exact walk_leaf (F := fun _ => False) (rest := []) leafC_nil (fun _ _ _ _ _ => trivial) (fun e he => by cases he) hT hJ hx trivial (fun b hb => hb.elim) (by simp [entsT])
  | some ⟨h, t⟩, hn, ok, hl => exact walk_any hT h t [] [] C W0 W hJ hx hn hF ok.1 ok.2.2 hl (by simp [entsT])
end Go.Proofs.YtohajcflklejjaaGreat
namespace Go.Proofs.YtohajcflklejjaaGreat
open Go.RowKit Go.Shelf
set_option linter.unusedVariables false
set_option linter.unusedSimpArgs false
def RangeK (F : Nat → Prop) (B : Nat) (b : Nat) : Prop := F b ∨ (B ≤ b ∧ b < B + 4)
abbrev rangeL (B : Nat) : Array Value := #[.pointer (some ⟨B, 0, none⟩), .pointer (some ⟨B + 1, 0, none⟩), .pointer (some ⟨B + 2, 0, none⟩), .pointer (some ⟨B + 3, 0, none⟩)]
set_option maxRecDepth 100000 in
set_option maxHeartbeats 2000000 in
theorem range_seq {w0 : World} {F : Nat → Prop} {T : RT} {B : Nat} {lo hi : ByteArray} {op : Bool} (hT : TreeAt F T w0) (ok : OkR T) (hl : (entsT T).length ≤ 1000000) (hB : RangeB w0 B T lo hi op) :
    SeqC Tryz.prog 72 (rangeL B) encE (RangeK F B) (ScanG (rangeE lo hi op (entsT T))) (fun xs => xs.map LE.ent = rangeE lo hi op (entsT T)) (fun pre => pre.map LE.ent <+: rangeE lo hi op (entsT T)) w0 := by
  intro l J Jx C W hTk hA hsz hCK hJ
  have hBW : RangeB W B T lo hi op := hB.agree hA fun b h1 h2 => .inr ⟨h1, h2⟩
  have hTW : TreeAt F T W := ⟨hT.1.agree (hA.mono fun b hb => .inl hb), fun b hb => Nat.lt_of_lt_of_le (hT.2 b hb) hsz⟩
  have hwk := fun W1 (hW : Ext W W1) => walkR_any hTk hJ hW (hTW.ext hW) (fun b hb h => hCK b h (.inl hb)) ok hl
  have hCl := hTk.lt [] C W hJ
  obtain ⟨p, hp⟩ := rootV_ptr T
  rw [hp] at hwk
  have hbt := hBW.bt
  rw [hp] at hbt
  have HSS := Lib.hid (show ∀ W1, St C W W1 → W1.cell? ⟨B, 0, none⟩ = some (.pointer p) ∧ W1.cell? ⟨B + 1, 0, none⟩ = some (.string lo) ∧ W1.cell? ⟨B + 2, 0, none⟩ = some (.string hi) ∧ W1.cell? ⟨B + 3, 0, none⟩ = some (.bool op) from fun W1 hW =>
    ⟨(hW.blk hbt fun h => hCK _ h (.inr ⟨by omega, by omega⟩)).cell 0, (hW.blk hBW.bl fun h => hCK _ h (.inr ⟨by omega, by omega⟩)).cell 0, (hW.blk hBW.bh fun h => hCK _ h (.inr ⟨by omega, by omega⟩)).cell 0, (hW.blk hBW.bo fun h => hCK _ h (.inr ⟨by omega, by omega⟩)).cell 0⟩)
  have HWK := Lib.hid hwk
  clear hTk hA hsz hCK hJ hBW hTW hwk hp hT ok hl hB hbt hCl
  show Calls _ _ #[.func (.yield l) #[] #[], .pointer (some ⟨B, 0, none⟩), .pointer (some ⟨B + 1, 0, none⟩), .pointer (some ⟨B + 2, 0, none⟩), .pointer (some ⟨B + 3, 0, none⟩)] W _
  go_enter Tryz.func72, Tryz.ntmps72
  go_wp2_with fail
  refine wp_region_held_drew (S := (fun w' => St C W w')) (by kernel_rfl) (((St.refl C W).drew)) (fun hHeld => ?_)
  refine held_on (i := 0) (d := (some 6)) (v := ?_) rfl rfl (by kernel_rfl) (by kernel_rfl) (by kernel_rfl) (fun _ _ _ h => h) (by rfl) hHeld ?_ ?_
  rotate_left
  focus (intro w hSw; have hSc := HSS.out w hSw; clear hSw; go_simp; first | done | with_reducible rfl)
  try simp only [Act.put, List.setIfInBounds_toArray, List.set_cons_zero, List.set_cons_succ]
  refine held_on (i := 2) (d := (some 8)) (v := ?_) rfl rfl (by kernel_rfl) (by kernel_rfl) (by kernel_rfl) (fun _ _ _ h => h) (by rfl) hHeld ?_ ?_
  rotate_left
  focus (intro w hSw; have hSc := HSS.out w hSw; clear hSw; go_simp; first | done | with_reducible rfl)
  try simp only [Act.put, List.setIfInBounds_toArray, List.set_cons_zero, List.set_cons_succ]
  refine held_on (i := 3) (d := (some 9)) (v := ?_) rfl rfl (by kernel_rfl) (by kernel_rfl) (by kernel_rfl) (fun _ _ _ h => h) (by rfl) hHeld ?_ ?_
  rotate_left
  focus (intro w hSw; have hSc := HSS.out w hSw; clear hSw; go_simp; first | done | with_reducible rfl)
  try simp only [Act.put, List.setIfInBounds_toArray, List.set_cons_zero, List.set_cons_succ]
  refine held_on (i := 4) (d := (some 10)) (v := ?_) rfl rfl (by kernel_rfl) (by kernel_rfl) (by kernel_rfl) (fun _ _ _ h => h) (by rfl) hHeld ?_ ?_
  rotate_left
  focus (intro w hSw; have hSc := HSS.out w hSw; clear hSw; go_simp; first | done | with_reducible rfl)
  try simp only [Act.put, List.setIfInBounds_toArray, List.set_cons_zero, List.set_cons_succ]
  refine held_on (i := 5) (d := (some 11)) (v := ?_) rfl rfl (by kernel_rfl) (by kernel_rfl) (by kernel_rfl) (fun _ _ _ h => h) (by rfl) hHeld ?_ ?_
  rotate_left
  focus (intro w hSw; have hSc := HSS.out w hSw; clear hSw; go_simp; first | done | with_reducible rfl)
  try simp only [Act.put, List.setIfInBounds_toArray, List.set_cons_zero, List.set_cons_succ]
  refine held_on (i := 6) (d := (some 12)) (v := ?_) rfl rfl (by kernel_rfl) (by kernel_rfl) (by kernel_rfl) (fun _ _ _ h => h) (by rfl) hHeld ?_ ?_
  rotate_left
  focus (intro w hSw; have hSc := HSS.out w hSw; clear hSw; go_simp; first | done | with_reducible rfl)
  try simp only [Act.put, List.setIfInBounds_toArray, List.set_cons_zero, List.set_cons_succ]
  refine held_call (i := 1) (by kernel_rfl) rfl (by rfl) (fun K hK => ?_)
  go_simp
  (refine (treeRoot_any _ _).mono ?_; rintro e w1 ⟨rfl, hx1⟩; replace hx1 := ((Ext.refl W).drew).trans hx1; have HX1 := Lib.hid hx1)
  refine hK.out _ _ (hx1.st C) (fun hHeld => ?_)
  clear hK K
  try simp only [Act.put, List.setIfInBounds_toArray, List.set_cons_zero, List.set_cons_succ]
  refine held_call (i := 7) (by kernel_rfl) rfl (by rfl) (fun K hK => ?_)
  go_simp
  (refine (HWK.out _ HX1.out).mono ?_; intro e w2 hp2; obtain ⟨b2, rfl⟩ := hp2.bool; have HP2 := Lib.hid (hp2.from HX1.out); clear hp2)
  refine hK.out _ _ (HP2.out.st) (fun hHeld => ?_)
  clear hK K
  try simp only [Act.put, List.setIfInBounds_toArray, List.set_cons_zero, List.set_cons_succ]
  refine wpAnyH_done (by kernel_rfl) ?_ _
  go_wp2_with fail
  go_end0
  refine ⟨⟨_, rfl⟩, ?_⟩
  rcases HP2.out with ⟨new, C', W0, -, h2, h3, h4, -, -⟩ | ⟨-, -, pre', W0, h2, h3, h4⟩
  · exact .inl ⟨new, C', W0, h4, h2, h3⟩
  · exact .inr ⟨pre', W0, h4, h2, h3⟩
def RangePost (T : RT) (lo hi : ByteArray) (op : Bool) (w : World) (e : Ending) (w' : World) : Prop :=
  ∃ B, e = .returned (.func (.func 72) #[] (rangeL B)) ∧ Ext w w' ∧ RangeB w' B T lo hi op ∧ w.heap.size ≤ B
theorem range_any (w : World) (T : RT) (lo hi : ByteArray) (op : Bool) : Calls Tryz.prog 50 #[treeV T, .string lo, .string hi, .bool op] w (RangePost T lo hi op w) := by
  obtain ⟨p, hp⟩ := rootV_ptr T
  rw [treeV, hp]
  go_enter Tryz.func50, Tryz.ntmps50
  go_wp2_with fail
  go_ret
  obtain ⟨hx, -, b0, b1, b2, b3⟩ := four_blocks w 33 9 9 4 #[.pointer p] #[.string lo] #[.string hi] #[.bool op] _ rfl
  exact ⟨w.heap.size, rfl, hx, ⟨by rw [hp]; exact b0, b1, b2, b3⟩, Nat.le_refl _⟩
end Go.Proofs.YtohajcflklejjaaGreat
namespace Go.Proofs.YtohajcflklejjaaGreat
open Go.RowKit Go.Shelf
set_option linter.unusedVariables false
set_option linter.unusedSimpArgs false
attribute [local go_sem] Oper.semAt_some
abbrev cells6 (x : LE) : Array Value := #[.int .i64 x.v.kind, .bool x.v.b, .int .i64 x.v.i, .string x.v.t, .slice x.sl.a x.v.l.length x.sl.c, .slice x.so.a x.v.ok.length x.so.c]
end Go.Proofs.YtohajcflklejjaaGreat
namespace Go.Proofs.YtohajcflklejjaaGreat
open Go.RowKit
set_option linter.unusedVariables false
section
variable {P : Program} {ops : Array Oper} {Q : Exit → Act → World → Prop} {md : Region.Mode} {S : World → Prop}
theorem held_three {i j k : Nat} {oi oj ok : Oper} {fuel : Nat} {listed : Array Bool} {a : Act} {w : World} (hr : Region.ready md ops listed = [i, j, k]) (hi : ops[i]? = some oi) (hj : ops[j]? = some oj) (hk : ops[k]? = some ok) (hw : Region.wanted oi (yielded ops a.tmps) = true) (hv : Region.wanted oj (yielded ops a.tmps) = true) (hu : Region.wanted ok (yielded ops a.tmps) = true)
    (h : ∀ K' : Act → World → Prop, Shut (∀ a w, S w → (S w → wpAnyH P md ops Q S fuel (listed.setIfInBounds i true) a w) → K' a w) → Oper.wp P oi a w K' Q)
    (h' : ∀ K' : Act → World → Prop, Shut (∀ a w, S w → (S w → wpAnyH P md ops Q S fuel (listed.setIfInBounds j true) a w) → K' a w) → Oper.wp P oj a w K' Q)
    (h'' : ∀ K' : Act → World → Prop, Shut (∀ a w, S w → (S w → wpAnyH P md ops Q S fuel (listed.setIfInBounds k true) a w) → K' a w) → Oper.wp P ok a w K' Q) : wpAnyH P md ops Q S (fuel + 1) listed a w :=
  wpAnyH_ready hr (by simp) (AllReadyH.cons hi (fun K' hK => by rw [if_pos hw]; exact h K' hK) (AllReadyH.cons hj (fun K' hK => by rw [if_pos hv]; exact h' K' hK) (AllReadyH.cons hk (fun K' hK => by rw [if_pos hu]; exact h'' K' hK) AllReadyH.nil)))
end
abbrev zeroL : List Value := [.string ByteArray.empty, .int .i64 0, .bool false, .int .i64 0, .string ByteArray.empty, .slice none 0 0, .slice none 0 0]
theorem row_zero {w5 : World} {base n : Nat} {s3 : Sl} {A : List Value} (h : w5.ownsRow base 47 7 (.slice s3.a (n + 1) s3.c) (n + 1) (A ++ zeroL)) (hA : A.length = n * 7) :
    ∃ g cap, s3 = ⟨some ⟨g, 0, none⟩, cap⟩ ∧ base ≤ g ∧ n + 1 ≤ cap ∧ cap ≤ maxLen ∧ g < w5.heap.size ∧ (∀ o, w5.frozen? ⟨g, o, none⟩ = false) ∧ w5.cell? ⟨g, n * 7, none⟩ = some (.string ByteArray.empty) ∧ w5.cell? ⟨g, n * 7 + 1, none⟩ = some (.int .i64 0) ∧ w5.cell? ⟨g, n * 7 + 2, none⟩ = some (.bool false) ∧
      w5.cell? ⟨g, n * 7 + 3, none⟩ = some (.int .i64 0) ∧ w5.cell? ⟨g, n * 7 + 4, none⟩ = some (.string ByteArray.empty) ∧ w5.cell? ⟨g, n * 7 + 5, none⟩ = some (.slice none 0 0) ∧ w5.cell? ⟨g, n * 7 + 6, none⟩ = some (.slice none 0 0) := by
  obtain ⟨g, cap, rfl, hbg, hnc, hcm, hfil⟩ := own_block h (Nat.succ_pos n)
  have hcl := h.cells (g := g) rfl
  have e : ∀ c u, zeroL[c]? = some u → w5.cell? ⟨g, n * 7 + c, none⟩ = some u := fun c u hu => by
    have := hcl (n * 7 + c) u (by rw [List.getElem?_append_right (by omega), hA, Nat.add_sub_cancel_left]; exact hu)
    rwa [add_at, Nat.zero_add] at this
  exact ⟨g, cap, rfl, hbg, hnc, hcm, hfil.lt, hfil.frozen, e 0 _ rfl, e 1 _ rfl, e 2 _ rfl, e 3 _ rfl, e 4 _ rfl, e 5 _ rfl, e 6 _ rfl⟩
section
variable {w W0 W3 W4 w5 : World} {B g cap : Nat} {s : Sl} {ys : List LE} {es : List Ent} {x : LE}
def CollEnd (w W3 : World) (B : Nat) (s : Sl) (es : List Ent) (W' : World) : Prop :=
  ∃ C', Coll w B es C' W' ∧ St (fun b => b = B ∨ s.row = some b) W3 W' ∧ (∀ b, C' b → (b = B ∨ s.row = some b) ∨ W3.heap.size ≤ b) ∧ (∀ b, C' b → b < W'.heap.size)
theorem coll_leaf1 (hB : B < w.heap.size) (hblk : Blk W0 B 50 #[.slice s.a ys.length s.c]) (ho : OE W0 (w.heap.size + 2) s ys) (hes : ys.map LE.ent = es) (hst : St (fun b => b = B) w W0) (hsz : w.heap.size + 2 ≤ W0.heap.size)
    (h03 : St (fun b => b = w.heap.size + 1) W0 W3) (hv : RV W3 (In W0.heap.size W3.heap.size) x.v x.sl x.so) (hk : x.k.size ≤ maxLen) (h34 : Ext W3 W4) (hwr : Wr W4 w5 s.row) (hs3 : (⟨some ⟨g, 0, none⟩, cap⟩ : Sl).a = s.a ∨ (⟨some ⟨g, 0, none⟩, cap⟩ : Sl).a = some ⟨W4.heap.size, 0, none⟩ ∧ Wr W4 w5 none) (hfew : (ys.length + 1) * 104 ≤ 140737488355328)
    (hown : w5.ownsRow (w.heap.size + 2) 47 7 (.slice (some ⟨g, 0, none⟩) (ys.length + 1) cap) (ys.length + 1) (flatE ys ++ zeroL)) :
    CollEnd w W3 B s (es ++ [x.ent]) ((putM w5 g (ys.length * 7) x.k x.v x.sl x.so).setCell ⟨B, 0, none⟩ (.slice (some ⟨g, 0, none⟩) (ys.length + 1) cap)) ∧ CollEnd w W3 B s (es ++ [x.ent]) (putM (w5.setCell ⟨B, 0, none⟩ (.slice (some ⟨g, 0, none⟩) (ys.length + 1) cap)) g (ys.length * 7) x.k x.v x.sl x.so) := by
  have hrow0 : ∀ b, s.row = some b → w.heap.size + 2 ≤ b ∧ b < W0.heap.size := fun b hb => own_row ho.own hb
  have hBg : w.heap.size + 2 ≤ g := (own_row (s := ⟨some ⟨g, 0, none⟩, cap⟩) hown rfl).1
  have hBg5 : g < w5.heap.size := (own_row (s := ⟨some ⟨g, 0, none⟩, cap⟩) hown rfl).2
  have hB5 : Blk w5 B 50 #[.slice s.a ys.length s.c] := (hwr.st (H := fun b => s.row = some b) fun i hi => hi).blk ((h03.blk hblk (by omega)).ext h34) (fun e => by have := (hrow0 B e).1; omega)
  have hset : ∀ W, St (fun b => b = B) W (W.setCell ⟨B, 0, none⟩ (.slice (some ⟨g, 0, none⟩) (ys.length + 1) cap)) := fun W => (St.refl (fun b => b = B) W).set (p := ⟨B, 0, none⟩) (.inr rfl) _
  have hput : ∀ W, St (fun b => b = g) W (putM W g (ys.length * 7) x.k x.v x.sl x.so) := fun W => St.putM (H := fun b => b = g) (b := g) (St.refl _ W) (.inr rfl) _ _ _ _ _
  have hl : (flatE ys).length = ys.length * 7 := flatE_len ys
  constructor
  · have hown1 := own_agree' (s := ⟨some ⟨g, 0, none⟩, cap⟩) (own_putM hown hl x) ((hset (putM w5 g (ys.length * 7) x.k x.v x.sl x.so)).agree.mono fun i hi => ⟨hi.2, by have := hi.1; omega⟩)
    obtain ⟨e1, e2, e3, e4⟩ := coll_end (s3 := ⟨some ⟨g, 0, none⟩, cap⟩) (W' := (putM w5 g (ys.length * 7) x.k x.v x.sl x.so).setCell ⟨B, 0, none⟩ (.slice (some ⟨g, 0, none⟩) (ys.length + 1) cap)) hB ho hes hst hsz h03 hv hk h34 hwr hs3
      (((hput w5).mono fun i _ hi => .inr (by rw [hi]; rfl)).trans ((hset _).mono fun i _ hi => .inl hi)) hfew (((hput w5).blk hB5 (by omega)).set_ 0 _) hown1
    exact ⟨_, e1, e2, e3, e4⟩
  · have hown1 := own_putM (own_agree' (s := ⟨some ⟨g, 0, none⟩, cap⟩) hown ((hset w5).agree.mono fun i hi => ⟨hi.2, by have := hi.1; omega⟩)) hl x
    obtain ⟨e1, e2, e3, e4⟩ := coll_end (s3 := ⟨some ⟨g, 0, none⟩, cap⟩) (W' := putM (w5.setCell ⟨B, 0, none⟩ (.slice (some ⟨g, 0, none⟩) (ys.length + 1) cap)) g (ys.length * 7) x.k x.v x.sl x.so) hB ho hes hst hsz h03 hv hk h34 hwr hs3
      (((hset w5).mono fun i _ hi => .inl hi).trans ((hput _).mono fun i _ hi => .inr (by rw [hi]; rfl))) hfew ((hput _).blk (hB5.set_ 0 _) (by omega)) hown1
    exact ⟨_, e1, e2, e3, e4⟩
end
end Go.Proofs.YtohajcflklejjaaGreat
namespace Go.Proofs.YtohajcflklejjaaGreat
open Go.RowKit
set_option linter.unusedVariables false
set_option linter.unusedSimpArgs false
theorem one_list6 {w : World} {F : Nat → Prop} {n : Int} {sl so : Sl} (h : RV w F (listV n) sl so) : ∃ b o sl0 so0, sl.a = some ⟨b, o, none⟩ ∧ F b ∧ 1 ≤ sl.c ∧ sl.c ≤ maxLen ∧ VCells w b o (numZ n) sl0 so0 := by
  cases h with
  | mk bl fl bo fo cl co hl ho hov el rl ek eo ro bk bi bt nl no =>
    obtain ⟨h1, h2, h3⟩ := hl.eq (Nat.zero_lt_one)
    have := el 0 _ rfl
    rw [Nat.zero_mul, Nat.add_zero] at this
    exact ⟨bl, fl, _, _, h1, hl.fits (Nat.zero_lt_one), h2, h3, this⟩
set_option maxRecDepth 100000 in
theorem equal_num (w : World) (n : Int) (s1 s2 s3 s4 : Sl) : Calls Tryz.prog 21 #[.agg #[.int .i64 3, .bool false, .int .i64 n, .string ByteArray.empty, .slice s1.a 0 s1.c, .slice s2.a 0 s2.c], .agg #[.int .i64 3, .bool false, .int .i64 n, .string ByteArray.empty, .slice s3.a 0 s3.c, .slice s4.a 0 s4.c]] w fun e w' => e = .returned (.bool true) ∧ Ext w w' := by
  have hn : (n != n) = false := by simp
  go_enter Tryz.func21, Tryz.ntmps21
  go_wp2_with fail
  generalize hW0 : World.alloc (World.alloc _ _) _ = W0
  obtain ⟨hx0, hz0, hb0, hb1⟩ := two_blocks w _ _ _ _ W0 hW0
  clear hW0
  have c4 : W0.cell? ⟨w.heap.size, 4, none⟩ = some (.slice s1.a 0 s1.c) := hb0.cell 4
  have c5 : W0.cell? ⟨w.heap.size, 5, none⟩ = some (.slice s2.a 0 s2.c) := hb0.cell 5
  have g0 : ¬ (0 : Int) < ((0 : Nat) : Int) := by decide
  have l0 := hb0.lt
  clear hb0 hb1 hz0
  go_loopw [5] (fun v wr => v = .int .i64 0 ∧ wr = W0) (fun v _ => 0)
  case atStart => exact ⟨rfl, rfl⟩
  case round =>
    obtain ⟨rfl, rfl⟩ := hrel
    go_wp2_with fail
    go_loopw [6] (fun v wr' => v = .int .i64 0 ∧ wr' = wr) (fun v _ => 0)
    case atStart => exact ⟨rfl, rfl⟩
    case round =>
      obtain ⟨rfl, rfl⟩ := hrel
      go_wp2_with fail
      go_ret
      exact ⟨rfl, hx0⟩
set_option maxRecDepth 100000 in
theorem equal_list {w : World} {n : Int} {sl so sl' so' : Sl} (h : RV w (Lt w.heap.size) (listV n) sl so) (h' : RV w (Lt w.heap.size) (listV n) sl' so') :
    Calls Tryz.prog 21 #[.agg #[.int .i64 5, .bool false, .int .i64 0, .string ByteArray.empty, .slice sl.a 1 sl.c, .slice so.a 0 so.c], .agg #[.int .i64 5, .bool false, .int .i64 0, .string ByteArray.empty, .slice sl'.a 1 sl'.c, .slice so'.a 0 so'.c]] w fun e w' => e = .returned (.bool true) ∧ Ext w w' := by
  obtain ⟨b, o, x1, x2, ha, lb, hc1, hc2, hv⟩ := one_list6 h
  obtain ⟨b', o', y1, y2, ha', lb', hc1', hc2', hv'⟩ := one_list6 h'
  obtain ⟨sa, sc⟩ := sl
  obtain ⟨sa', sc'⟩ := sl'
  dsimp only at ha ha' hc1 hc2 hc1' hc2'
  subst ha ha'
  have hen := fun W => equal_num W n x1 x2 y1 y2
  have HEN := Lib.hid hen
  have lb : b < w.heap.size := lb
  have lb' : b' < w.heap.size := lb'
  clear h h' hen
  go_enter Tryz.func21, Tryz.ntmps21
  go_wp2_with fail
  generalize hW0 : World.alloc (World.alloc _ _) _ = W0
  obtain ⟨hx0, hz0, hb0, hb1⟩ := two_blocks w _ _ _ _ W0 hW0
  clear hW0
  have HSS := Lib.hid (show ∀ W, Ext W0 W → W.cell? ⟨w.heap.size, 4, none⟩ = some (.slice (some ⟨b, o, none⟩) 1 sc) ∧ W.cell? ⟨w.heap.size, 5, none⟩ = some (.slice so.a 0 so.c) ∧ W.cell? ⟨w.heap.size + 1, 4, none⟩ = some (.slice (some ⟨b', o', none⟩) 1 sc') ∧
      W.cell? ⟨b, o, none⟩ = some (.int .i64 3) ∧ W.cell? ⟨b, o + 1, none⟩ = some (.bool false) ∧ W.cell? ⟨b, o + 2, none⟩ = some (.int .i64 n) ∧ W.cell? ⟨b, o + 3, none⟩ = some (.string ByteArray.empty) ∧ W.cell? ⟨b, o + 4, none⟩ = some (.slice x1.a 0 x1.c) ∧ W.cell? ⟨b, o + 5, none⟩ = some (.slice x2.a 0 x2.c) ∧
      W.cell? ⟨b', o', none⟩ = some (.int .i64 3) ∧ W.cell? ⟨b', o' + 1, none⟩ = some (.bool false) ∧ W.cell? ⟨b', o' + 2, none⟩ = some (.int .i64 n) ∧ W.cell? ⟨b', o' + 3, none⟩ = some (.string ByteArray.empty) ∧ W.cell? ⟨b', o' + 4, none⟩ = some (.slice y1.a 0 y1.c) ∧ W.cell? ⟨b', o' + 5, none⟩ = some (.slice y2.a 0 y2.c) from
    fun W hW => ⟨(hb0.ext hW).cell 4, (hb0.ext hW).cell 5, (hb1.ext hW).cell 4, ((hx0.trans hW).cell lb).trans hv.c0, ((hx0.trans hW).cell lb).trans hv.c1, ((hx0.trans hW).cell lb).trans hv.c2, ((hx0.trans hW).cell lb).trans hv.c3, ((hx0.trans hW).cell lb).trans hv.c4, ((hx0.trans hW).cell lb).trans hv.c5,
      ((hx0.trans hW).cell lb').trans hv'.c0, ((hx0.trans hW).cell lb').trans hv'.c1, ((hx0.trans hW).cell lb').trans hv'.c2, ((hx0.trans hW).cell lb').trans hv'.c3, ((hx0.trans hW).cell lb').trans hv'.c4, ((hx0.trans hW).cell lb').trans hv'.c5⟩)
  have l0 := hb0.lt
  have l1 := hb1.lt
  have HX0 := Lib.hid hx0
  clear hb0 hb1 hz0 hv hv' hx0
  go_loopw [5] (fun v wr => ∃ j : Nat, v = .int .i64 j ∧ j ≤ 1 ∧ Ext W0 wr) (fun v _ => 1 - (intOf v).toNat)
  case atStart => exact ⟨0, rfl, by omega, Ext.refl _⟩
  case round =>
    obtain ⟨j, rfl, hj, hx⟩ := hrel
    obtain ⟨c4, c5, d4, -⟩ := HSS.out wr hx
    have l0 : w.heap.size < wr.heap.size := Nat.lt_of_lt_of_le l0 hx.size
    have HX := Lib.hid hx
    by_cases h0 : j = 0
    · subst h0
      have hs := HSS.out
      have HSW := Lib.hid (show ∀ W, Ext wr W → _ from fun W hW => hs W (hx.trans hW))
      clear hx hs
      go_wp2_with fail
      refine wp_region_held_drew (S := (fun w' => Ext wr w')) (by kernel_rfl) (((Ext.refl wr).drew)) (fun hHeld => ?_)
      refine held_on (i := 0) (d := (some 58)) (v := ?_) rfl rfl (by kernel_rfl) (by kernel_rfl) (by kernel_rfl) (fun _ _ _ h => h) (by rfl) hHeld ?_ ?_
      rotate_left
      focus (intro w hSw; have hSc := HSW.out w hSw; clear hSw; go_simp; first | done | with_reducible rfl)
      try simp only [Act.put, List.setIfInBounds_toArray, List.set_cons_zero, List.set_cons_succ]
      refine held_on (i := 1) (d := (some 59)) (v := ?_) rfl rfl (by kernel_rfl) (by kernel_rfl) (by kernel_rfl) (fun _ _ _ h => h) (by rfl) hHeld ?_ ?_
      rotate_left
      focus (intro w hSw; have hSc := HSW.out w hSw; clear hSw; go_simp; first | done | with_reducible rfl)
      try simp only [Act.put, List.setIfInBounds_toArray, List.set_cons_zero, List.set_cons_succ]
      refine held_on (i := 2) (d := (some 60)) (v := ?_) rfl rfl (by kernel_rfl) (by kernel_rfl) (by kernel_rfl) (fun _ _ _ h => h) (by rfl) hHeld ?_ ?_
      rotate_left
      focus (intro w hSw; have hSc := HSW.out w hSw; clear hSw; go_simp; first | done | with_reducible rfl)
      try simp only [Act.put, List.setIfInBounds_toArray, List.set_cons_zero, List.set_cons_succ]
      refine held_on (i := 3) (d := (some 61)) (v := ?_) rfl rfl (by kernel_rfl) (by kernel_rfl) (by kernel_rfl) (fun _ _ _ h => h) (by rfl) hHeld ?_ ?_
      rotate_left
      focus (intro w hSw; have hSc := HSW.out w hSw; clear hSw; go_simp; first | done | with_reducible rfl)
      try simp only [Act.put, List.setIfInBounds_toArray, List.set_cons_zero, List.set_cons_succ]
      refine held_on (i := 4) (d := (some 62)) (v := ?_) rfl rfl (by kernel_rfl) (by kernel_rfl) (by kernel_rfl) (fun _ _ _ h => h) (by rfl) hHeld ?_ ?_
      rotate_left
      focus (intro w hSw; have hSc := HSW.out w hSw; clear hSw; go_simp; first | done | with_reducible rfl)
      try simp only [Act.put, List.setIfInBounds_toArray, List.set_cons_zero, List.set_cons_succ]
      refine held_on (i := 5) (d := (some 63)) (v := ?_) rfl rfl (by kernel_rfl) (by kernel_rfl) (by kernel_rfl) (fun _ _ _ h => h) (by rfl) hHeld ?_ ?_
      rotate_left
      focus (intro w hSw; have hSc := HSW.out w hSw; clear hSw; go_simp; first | done | with_reducible rfl)
      try simp only [Act.put, List.setIfInBounds_toArray, List.set_cons_zero, List.set_cons_succ]
      refine held_on (i := 6) (d := (some 64)) (v := ?_) rfl rfl (by kernel_rfl) (by kernel_rfl) (by kernel_rfl) (fun _ _ _ h => h) (by rfl) hHeld ?_ ?_
      rotate_left
      focus (intro w hSw; have hSc := HSW.out w hSw; clear hSw; go_simp; first | done | with_reducible rfl)
      try simp only [Act.put, List.setIfInBounds_toArray, List.set_cons_zero, List.set_cons_succ]
      refine held_on (i := 7) (d := (some 65)) (v := ?_) rfl rfl (by kernel_rfl) (by kernel_rfl) (by kernel_rfl) (fun _ _ _ h => h) (by rfl) hHeld ?_ ?_
      rotate_left
      focus (intro w hSw; have hSc := HSW.out w hSw; clear hSw; go_simp; first | done | with_reducible rfl)
      try simp only [Act.put, List.setIfInBounds_toArray, List.set_cons_zero, List.set_cons_succ]
      refine held_on (i := 8) (d := (some 66)) (v := ?_) rfl rfl (by kernel_rfl) (by kernel_rfl) (by kernel_rfl) (fun _ _ _ h => h) (by rfl) hHeld ?_ ?_
      rotate_left
      focus (intro w hSw; have hSc := HSW.out w hSw; clear hSw; go_simp; first | done | with_reducible rfl)
      try simp only [Act.put, List.setIfInBounds_toArray, List.set_cons_zero, List.set_cons_succ]
      refine held_on (i := 9) (d := (some 67)) (v := ?_) rfl rfl (by kernel_rfl) (by kernel_rfl) (by kernel_rfl) (fun _ _ _ h => h) (by rfl) hHeld ?_ ?_
      rotate_left
      focus (intro w hSw; have hSc := HSW.out w hSw; clear hSw; go_simp; first | done | with_reducible rfl)
      try simp only [Act.put, List.setIfInBounds_toArray, List.set_cons_zero, List.set_cons_succ]
      refine held_call (i := 10) (by kernel_rfl) rfl (by rfl) (fun K hK => ?_)
      go_simp
      (refine (HEN.out _).mono ?_; rintro e w2 ⟨rfl, hx2⟩)
      refine hK.out _ _ (hHeld.trans hx2) (fun hHeld => ?_)
      clear hK K
      try simp only [Act.put, List.setIfInBounds_toArray, List.set_cons_zero, List.set_cons_succ]
      refine held_on (i := 11) (d := (some 69)) (v := ?_) rfl rfl (by kernel_rfl) (by kernel_rfl) (by kernel_rfl) (fun _ _ _ h => h) (by rfl) hHeld ?_ ?_
      rotate_left
      focus (intro w hSw; have hSc := HSW.out w hSw; clear hSw; go_simp; first | done | with_reducible rfl)
      try simp only [Act.put, List.setIfInBounds_toArray, List.set_cons_zero, List.set_cons_succ]
      refine wpAnyH_done (by kernel_rfl) ?_ _
      have HH := Lib.hid hHeld
      clear hHeld
      go_wp2_with fail
      go_roundw
      case rel => exact ⟨1, by go_num, by omega, HX.out.trans HH.out⟩
      case measure => simp [intOf]
    · obtain rfl : j = 1 := by omega
      have g0 : ¬ ((1 : Nat) : Int) < (1 : Int) := by decide
      have g1 : ¬ (0 : Int) < ((0 : Nat) : Int) := by decide
      clear hx
      go_wp2_with fail
      go_loopw [6] (fun v wr' => v = .int .i64 0 ∧ wr' = wr) (fun v _ => 0)
      case atStart => exact ⟨rfl, rfl⟩
      case round =>
        obtain ⟨rfl, rfl⟩ := hrel
        go_wp2_with fail
        go_ret
        exact ⟨rfl, HX0.out.trans HX.out⟩
end Go.Proofs.YtohajcflklejjaaGreat
namespace Go.Proofs.YtohajcflklejjaaGreat
open Go.RowKit Go.Shelf Go.Maps
set_option linter.unusedVariables false
set_option linter.unusedSimpArgs false
attribute [local go_sem] Oper.semAt_some
theorem look_ok27 {W : World} {b g i : Nat} {L : Subs} {p : Nat × Iv} (hown : W.ownsMap Tryz.prog 34 ivR b g (mapD L)) (hp : L.find? (fun p => p.1 == i) = some p) (hi : i ≤ 18446744073709551615) :
    (Instr.lookup 35 (.map (some b)) (.int .u64 (i : Int)) true).run Tryz.prog W = .ok (.tuple #[p.2.v, .bool true]) W := by
  obtain ⟨v, ps, hrun, hv⟩ := hown.look_ok u64Key Tryz.underlying35 (zeroIv W) (ivR_mk ⟨ByteArray.empty, ByteArray.empty, false⟩) (keyU i hi)
  rw [at_mapD hp] at hv
  have hh : Maps.has (mapD L) (keyL i) = true := by
    rw [has_mapD, List.any_eq_true]
    exact ⟨p, List.mem_of_find?_eq_some hp, List.find?_some (p := fun p : Nat × Iv => p.1 == i) hp⟩
  rw [hrun, ivR_inv hv, hh]
def ResultPost (l : List Ent) (w : World) (e : Ending) (w' : World) : Prop :=
  ∃ (s : Sl) (ys : List LE), e = .returned (.tuple #[.slice s.a ys.length s.c, .int .i64 0]) ∧ ys.map LE.ent = l ∧ Ext w w' ∧ ES w' (In w.heap.size w'.heap.size) s ys
set_option maxRecDepth 100000 in
set_option maxHeartbeats 8000000 in
theorem result27_any {w : World} {R : Nat} {T : RT} {g : Nat} {mb : Option Nat} {L : Subs} {F : Nat → Prop} (h : RegAt w R T g mb L) (hT : IsT w F T) (hF : ∀ b, F b → b < w.heap.size) (ok : OkR T) (hl : (entsT T).length ≤ 500000)
    {i : Nat} {iv : Iv} (hp : L.find? (fun p => p.1 == i) = some (i, iv)) (hi64 : i ≤ 18446744073709551615) :
    Calls Tryz.prog 19 #[.pointer (some ⟨R, 0, none⟩), .int .u64 (i : Int)] w (ResultPost (rangeE iv.lo iv.hi iv.op (entsT T)) w) := by
  obtain ⟨i0, hi, hz0, hz1', hz2⟩ := info_parts Tryz.infoEntry
  obtain ⟨p, hpT⟩ := rootV_ptr T
  obtain ⟨b, rfl⟩ : ∃ b, mb = some b := by
    cases mb with
    | none => have : L = [] := h.map; subst this; cases hp
    | some b => exact ⟨b, rfl⟩
  have hlk := look_ok27 (show w.ownsMap Tryz.prog 34 ivR b g (mapD L) from h.map) hp hi64
  dsimp only at hlk
  have r2 : w.cell? ⟨R, 2, none⟩ = some (.map (some b)) := h.blk.cell 2
  have r0 : w.cell? ⟨R, 0, none⟩ = some (.pointer p) := by rw [← hpT]; exact h.blk.cell 0
  have lR := h.blk.lt
  have hra := fun W => range_any W T iv.lo iv.hi iv.op
  rw [treeV, hpT] at hra
  have HRA := Lib.hid hra
  have HT := Lib.hid hT
  have HF := Lib.hid hF
  have HOK := Lib.hid ok
  have HL := Lib.hid hl
  clear h hT hF ok hp hra hl
  obtain ⟨lo, hi', op⟩ := iv
  dsimp only at *
  refine (callsIn_wide (n := 6)).1 ?_
  refine callsIn_of_wp_marks Tryz.func19 rfl trivial ?_ rfl
  simp only [Tryz.ntmps19, List.size_toArray, List.length_cons, List.length_nil, Nat.reduceAdd, Nat.reduceSub, Array.replicate_succ, Array.replicate_zero, List.push_toArray, List.append_toArray, List.nil_append, List.cons_append]
  gi_wp2_with fail
  generalize hW0 : World.alloc (World.alloc _ _) _ = W0
  obtain ⟨hx0, hz0', hb0, hb1⟩ := two_blocks w _ _ _ _ W0 hW0
  clear hW0
  have HX0 := Lib.hid hx0
  have HB1 := Lib.hid hb1
  have HSS := Lib.hid (show ∀ W, Ext W0 W → W.cell? ⟨R, 0, none⟩ = some (.pointer p) ∧ W.cell? ⟨w.heap.size, 0, none⟩ = some (.string lo) ∧ W.cell? ⟨w.heap.size, 1, none⟩ = some (.string hi') ∧ W.cell? ⟨w.heap.size, 2, none⟩ = some (.bool op) from
    fun W hW => ⟨((hx0.trans hW).cell lR).trans r0, (hb0.ext hW).cell 0, (hb0.ext hW).cell 1, (hb0.ext hW).cell 2⟩)
  have hzl : w.heap.size + 2 ≤ W0.heap.size := by omega
  clear hx0 hb0 hb1 hz0' hlk r2 r0
  refine wpIn_onlyN (wpIn_wide.2 ?_)
  refine wp_region_held_drew (S := (fun w' => Ext W0 w')) (by kernel_rfl) (((Ext.refl W0).drew)) (fun hHeld => ?_)
  refine held_on (i := 0) (d := (some 24)) (v := ?_) rfl rfl (by kernel_rfl) (by kernel_rfl) (by kernel_rfl) (fun _ _ _ h => h) (by rfl) hHeld ?_ ?_
  rotate_left
  focus (intro w hSw; have hSc := HSS.out w hSw; clear hSw; go_simp; first | done | with_reducible rfl)
  try simp only [Act.put, List.setIfInBounds_toArray, List.set_cons_zero, List.set_cons_succ]
  refine held_on (i := 1) (d := (some 25)) (v := ?_) rfl rfl (by kernel_rfl) (by kernel_rfl) (by kernel_rfl) (fun _ _ _ h => h) (by rfl) hHeld ?_ ?_
  rotate_left
  focus (intro w hSw; have hSc := HSS.out w hSw; clear hSw; go_simp; first | done | with_reducible rfl)
  try simp only [Act.put, List.setIfInBounds_toArray, List.set_cons_zero, List.set_cons_succ]
  refine held_on (i := 2) (d := (some 26)) (v := ?_) rfl rfl (by kernel_rfl) (by kernel_rfl) (by kernel_rfl) (fun _ _ _ h => h) (by rfl) hHeld ?_ ?_
  rotate_left
  focus (intro w hSw; have hSc := HSS.out w hSw; clear hSw; go_simp; first | done | with_reducible rfl)
  try simp only [Act.put, List.setIfInBounds_toArray, List.set_cons_zero, List.set_cons_succ]
  refine held_on (i := 3) (d := (some 27)) (v := ?_) rfl rfl (by kernel_rfl) (by kernel_rfl) (by kernel_rfl) (fun _ _ _ h => h) (by rfl) hHeld ?_ ?_
  rotate_left
  focus (intro w hSw; have hSc := HSS.out w hSw; clear hSw; go_simp; first | done | with_reducible rfl)
  try simp only [Act.put, List.setIfInBounds_toArray, List.set_cons_zero, List.set_cons_succ]
  refine held_on (i := 4) (d := (some 28)) (v := ?_) rfl rfl (by kernel_rfl) (by kernel_rfl) (by kernel_rfl) (fun _ _ _ h => h) (by rfl) hHeld ?_ ?_
  rotate_left
  focus (intro w hSw; have hSc := HSS.out w hSw; clear hSw; go_simp; first | done | with_reducible rfl)
  try simp only [Act.put, List.setIfInBounds_toArray, List.set_cons_zero, List.set_cons_succ]
  refine held_on (i := 5) (d := (some 29)) (v := ?_) rfl rfl (by kernel_rfl) (by kernel_rfl) (by kernel_rfl) (fun _ _ _ h => h) (by rfl) hHeld ?_ ?_
  rotate_left
  focus (intro w hSw; have hSc := HSS.out w hSw; clear hSw; go_simp; first | done | with_reducible rfl)
  try simp only [Act.put, List.setIfInBounds_toArray, List.set_cons_zero, List.set_cons_succ]
  refine held_on (i := 6) (d := (some 30)) (v := ?_) rfl rfl (by kernel_rfl) (by kernel_rfl) (by kernel_rfl) (fun _ _ _ h => h) (by rfl) hHeld ?_ ?_
  rotate_left
  focus (intro w hSw; have hSc := HSS.out w hSw; clear hSw; go_simp; first | done | with_reducible rfl)
  try simp only [Act.put, List.setIfInBounds_toArray, List.set_cons_zero, List.set_cons_succ]
  refine held_on (i := 7) (d := (some 31)) (v := ?_) rfl rfl (by kernel_rfl) (by kernel_rfl) (by kernel_rfl) (fun _ _ _ h => h) (by rfl) hHeld ?_ ?_
  rotate_left
  focus (intro w hSw; have hSc := HSS.out w hSw; clear hSw; go_simp; first | done | with_reducible rfl)
  try simp only [Act.put, List.setIfInBounds_toArray, List.set_cons_zero, List.set_cons_succ]
  refine held_on (i := 8) (d := (some 32)) (v := ?_) rfl rfl (by kernel_rfl) (by kernel_rfl) (by kernel_rfl) (fun _ _ _ h => h) (by rfl) hHeld ?_ ?_
  rotate_left
  focus (intro w hSw; have hSc := HSS.out w hSw; clear hSw; go_simp; first | done | with_reducible rfl)
  try simp only [Act.put, List.setIfInBounds_toArray, List.set_cons_zero, List.set_cons_succ]
  refine held_on (i := 9) (d := (some 33)) (v := ?_) rfl rfl (by kernel_rfl) (by kernel_rfl) (by kernel_rfl) (fun _ _ _ h => h) (by rfl) hHeld ?_ ?_
  rotate_left
  focus (intro w hSw; have hSc := HSS.out w hSw; clear hSw; go_simp; first | done | with_reducible rfl)
  try simp only [Act.put, List.setIfInBounds_toArray, List.set_cons_zero, List.set_cons_succ]
  refine held_call (i := 10) (by kernel_rfl) rfl (by rfl) (fun K hK => ?_)
  go_simp
  (refine (HRA.out _).mono ?_; rintro e w4 ⟨B, rfl, hx4, hrb4, hB⟩)
  refine hK.out _ _ (hHeld.trans hx4) (fun hHeld => ?_)
  clear hK K
  try simp only [Act.put, List.setIfInBounds_toArray, List.set_cons_zero, List.set_cons_succ]
  refine wpAnyH_done (by kernel_rfl) ?_ _
  refine onlyN_mk ?_
  have hx04 := hHeld
  have hx := HX0.out.trans hx04
  have hz04 := hx04.size
  have hsq := range_seq (F := F) (T := T) ⟨HT.out.agree (hx.agree HF.out), fun b hb => Nat.lt_of_lt_of_le (HF.out b hb) hx.size⟩ HOK.out (by have := HL.out; omega) hrb4
  have HSQ := Lib.hid hsq
  have HBG := Lib.hid (HB1.out.ext hx04)
  have HX := Lib.hid hx
  have hBl := hrb4.lt
  have hl1 : w.heap.size + 1 < w4.heap.size := HBG.out.lt
  have hB' : W0.heap.size ≤ B := hB
  have hrl : (rangeE lo hi' op (entsT T)).length ≤ 500000 := Nat.le_trans (List.length_filter_le ..) HL.out
  have HRL := Lib.hid hrl
  clear hHeld hx04 hx hrb4 hsq hrl hB
  gi_wp2_with fail
  refine wpIn_rangeC (gf := 72) (lb := rangeL B) rfl (enters_of Tryz.func72 (by kernel_rfl) rfl) HSQ.out (Agree.refl _) (Nat.le_refl _)
    (fun b hb => hb.elim (fun h => by have := HF.out b h; omega) (fun h => by omega)) (fun _ => rfl)
    (fun pre C W => Coll w4 (w.heap.size + 1) (pre.map LE.ent) C W) (fun _ _ _ => False) (fun b => b = w.heap.size + 1)
    (fun b hb => ⟨by omega, fun h => h.elim (fun h => by have := HF.out b h; omega) (fun h => by omega)⟩)
    (fun h k => h.turn hl1 k) (fun h k => h) (fun W hW hz => Coll.start HBG.out hW hz) ?round ?done ?stop
  case stop =>
    rintro D c pre W hD hSp hX
    exact hX.elim
  case round =>
    rintro pre C x W0' W1 hII hlt hsz hnL hx01 hG
    have HCO := Lib.hid hII
    obtain ⟨⟨s, ys, rfl, hblk, ho, hes⟩, hst, hsz'⟩ := hII
    obtain ⟨es', hes'⟩ : ∃ es', pre.map LE.ent = es' := ⟨_, rfl⟩
    have hyl : ys.length < 1000000 := by
      have h1 := (List.getElem?_eq_some_iff.1 hG.at_).1
      have h2 : ys.length = pre.length := by have := congrArg List.length hes; simpa using this
      have := HRL.out
      omega
    have hsn : (pre ++ [x]).map LE.ent = es' ++ [x.ent] := by rw [List.map_append, hes']; rfl
    rw [hes'] at hes
    have hb3 := Blk.new W1 44 (cells6 x)
    have hx3 : Ext W1 (W1.alloc (.cells (cells6 x) 44)) := (Ext.refl W1).alloc _ _
    have HB3 := Lib.hid hb3
    have HX3 := Lib.hid hx3
    have HBLK := Lib.hid hblk
    have HO := Lib.hid ho
    have HES := Lib.hid hes
    have HST := Lib.hid hst
    have HX01 := Lib.hid hx01
    have HG := Lib.hid hG
    have HSN := Lib.hid hsn
    clear hb3 hx3 hblk ho hes hst hx01 hG hnL hlt hes' hsn
    gi_wp2_with fail
    refine ⟨HX3.out, fun W3 k3 => ?_⟩
    have h03 := ((HX01.out.trans HX3.out).st _).trans k3
    have hs03 := h03.size
    have hs01 := HX01.out.size
    have hbv := k3.blk HB3.out (by omega)
    obtain ⟨c0, c1, c2, c3, c4, c5⟩ := hbv.c6
    have lv := hbv.lt
    have hgb := h03.blk HBLK.out (by omega)
    have cg : W3.cell? ⟨w.heap.size + 1, 0, none⟩ = some (.slice s.a ys.length s.c) := hgb.cell 0
    have fg := Lib.hid (hgb.frozen 0)
    have lg := hgb.lt
    have hrow0 : ∀ b, s.row = some b → w4.heap.size + 2 ≤ b ∧ b < W0'.heap.size := fun b hb => own_row HO.out.own hb
    have hx34 : Ext W3 (W3.drew.alloc (.cells zero7 47)) := ((Ext.refl W3).drew).alloc _ _
    have ho3 : OE W3 (w4.heap.size + 2) s ys := HO.out.agree' (h03.agree.mono fun i hi => ⟨hi.2, by have := hi.1; omega⟩) h03.size
    have HOWN4 := Lib.hid (ho3.ext hx34).own
    have HZB := Lib.hid (Rd.block (size := 7) (n := 1) (cs := zeroL) (Blk.new W3.drew 47 zero7) (by decide) rfl)
    have hrv : RV W3 (In W0'.heap.size W3.heap.size) x.v x.sl x.so := ((HG.out.val.agree (HX3.out.agree fun b hb => hb.2)).agree (k3.agree.mono fun i hi => ⟨Nat.lt_of_lt_of_le hi.2 HX3.out.size, by have := hi.1; omega⟩)).mono fun i hi => ⟨hi.1, Nat.lt_of_lt_of_le hi.2 (Nat.le_trans HX3.out.size k3.size)⟩
    have h63 : ys.length + 1 ≤ maxLen := by unfold maxLen; omega
    have hby : (ys.length + 1) * 104 ≤ 140737488355328 := by omega
    have hbase : w4.heap.size + 2 ≤ (W3.drew.alloc (.cells zero7 47)).heap.size := by rw [World.size_alloc, World.size_drew]; omega
    have hz1 : ∀ u ∈ zeroL, u.oneCell' = true := by intro u hu; simp only [zeroL, List.mem_cons, List.not_mem_nil, or_false] at hu; rcases hu with rfl | rfl | rfl | rfl | rfl | rfl | rfl <;> rfl
    have H03 := Lib.hid h03
    have HRV := Lib.hid hrv
    have HX34 := Lib.hid hx34
    have HGB := Lib.hid hgb
    have hne1 : ¬ w.heap.size + 1 = W1.heap.size := by omega
    have hix : (ys.length : Int) < (ys.length : Int) + 1 := by omega
    have hsW1 : W0'.heap.size ≤ W1.heap.size := hs01
    clear k3 h03 hbv hgb hx34 ho3 hrv
    gi_wp2_with fail
    refine wpIn_region_round (S := (fun _ => True)) (by kernel_rfl) (by rintro ⟨a, w, h⟩; exact h) (by kernel_rfl) (trivial) (fun hHeld => ?_)
    refine held_on (i := 1) (d := (some 38)) (v := ?_) rfl rfl (by kernel_rfl) (by kernel_rfl) (by kernel_rfl) (fun _ _ _ h => h) (by rfl) hHeld ?_ ?_
    rotate_left
    focus (intro w hSw; (try dsimp only at hSw); go_simp; first | done | with_reducible rfl)
    try simp only [Act.put, List.setIfInBounds_toArray, List.set_cons_zero, List.set_cons_succ]
    refine held_three (i := 0) (j := 2) (k := 5) (by kernel_rfl) rfl rfl rfl (by rfl) (by rfl) (by rfl) (fun K hK => ?_) (fun K hK => ?_) (fun K hK => ?_)
    · go_simp
      skip
      refine hK.out _ _ (trivial) (fun hHeld => ?_)
      clear hK K
      try simp only [Act.put, List.setIfInBounds_toArray, List.set_cons_zero, List.set_cons_succ]
      refine held_on (i := 4) (d := (some 41)) (v := ?_) rfl rfl (by kernel_rfl) (by kernel_rfl) (by kernel_rfl) (fun _ _ _ h => h) (by rfl) hHeld ?_ ?_
      rotate_left
      focus (intro w hSw; (try dsimp only at hSw); go_simp; first | done | with_reducible rfl)
      try simp only [Act.put, List.setIfInBounds_toArray, List.set_cons_zero, List.set_cons_succ]
      refine held_two (i := 2) (j := 5) (by kernel_rfl) rfl rfl (by rfl) (by rfl) (fun K hK => ?_) (fun K hK => ?_)
      · go_simp
        skip
        refine hK.out _ _ (trivial) (fun hHeld => ?_)
        clear hK K
        try simp only [Act.put, List.setIfInBounds_toArray, List.set_cons_zero, List.set_cons_succ]
        refine held_on (i := 3) (d := (some 40)) (v := ?_) rfl rfl (by kernel_rfl) (by kernel_rfl) (by kernel_rfl) (fun _ _ _ h => h) (by rfl) hHeld ?_ ?_
        rotate_left
        focus (intro w hSw; (try dsimp only at hSw); go_simp; first | done | with_reducible rfl)
        try simp only [Act.put, List.setIfInBounds_toArray, List.set_cons_zero, List.set_cons_succ]
        refine held_call (i := 5) (by kernel_rfl) rfl (by rfl) (fun K hK => ?_)
        go_simp
        skip
        refine hK.out _ _ (trivial) (fun hHeld => ?_)
        clear hK K
        try simp only [Act.put, List.setIfInBounds_toArray, List.set_cons_zero, List.set_cons_succ]
        refine held_call (i := 6) (by kernel_rfl) rfl (by rfl) (fun K hK => ?_)
        skip
        refine wp_append_x _ (.tmp 37) (.tmp 42) 50 rfl (w4.heap.size + 2) 47 i0 _ 7 104 Tryz.underlying50 hi hz0 hz1' hz2 rfl (by decide) s ys.length (flatE ys) (by rfl) HOWN4.out (fun b => b = W3.heap.size) ⟨some ⟨W3.heap.size, 0, none⟩, 1⟩ 1 zeroL (by rfl) HZB.out hz1 h63 hby hbase ?_; intro s3 w5 hown5 hwr5 hs5; obtain ⟨g, cap, rfl, hbg, hnc, hcm, lg5, fg5, z0, z1, z2, z3, z4, z5, z6⟩ := row_zero hown5 (flatE_len ys); have h5 := hwr5.cell0 (o := 0) HX34.out (fun e => by have := (hrow0 _ e).1; omega) lg; have cB5 := h5.1.trans cg; have lB5 := h5.2; have fB5 := (hwr5.fz (w.heap.size + 1) 0).trans ((HX34.out.frozen (o := 0) lg).trans fg.out); have hgB : ¬ g = w.heap.size + 1 := (by omega); have hBg : ¬ w.heap.size + 1 = g := (by omega); have HOW := Lib.hid hown5; have HWR := Lib.hid hwr5; have HS5 := Lib.hid hs5; clear hown5 hwr5 hs5 h5
        refine hK.out _ _ (trivial) (fun hHeld => ?_)
        clear hK K
        try simp only [Act.put, List.setIfInBounds_toArray, List.set_cons_zero, List.set_cons_succ]
        refine held_on (i := 7) (d := (some 44)) (v := ?_) rfl rfl (by kernel_rfl) (by kernel_rfl) (by kernel_rfl) (fun _ _ _ h => h) (by rfl) hHeld ?_ ?_
        rotate_left
        focus (intro w hSw; (try dsimp only at hSw); go_simp; first | done | with_reducible rfl)
        try simp only [Act.put, List.setIfInBounds_toArray, List.set_cons_zero, List.set_cons_succ]
        refine held_two (i := 8) (j := 9) (by kernel_rfl) rfl rfl (by rfl) (by rfl) (fun K hK => ?_) (fun K hK => ?_)
        · go_simp
          skip
          refine hK.out _ _ (trivial) (fun hHeld => ?_)
          clear hK K
          try simp only [Act.put, List.setIfInBounds_toArray, List.set_cons_zero, List.set_cons_succ]
          refine held_call (i := 9) (by kernel_rfl) rfl (by rfl) (fun K hK => ?_)
          go_simp
          skip
          refine hK.out _ _ (trivial) (fun hHeld => ?_)
          clear hK K
          try simp only [Act.put, List.setIfInBounds_toArray, List.set_cons_zero, List.set_cons_succ]
          refine wpAnyH_done (by kernel_rfl) ?_ _
          gi_wp2_with fail
          have hL := (coll_leaf1 hl1 HBLK.out HO.out HES.out HST.out hsz' H03.out HRV.out HG.out.key HX34.out HWR.out HS5.out hby HOW.out).1
          rw [← HSN.out] at hL
          exact hL
        · go_simp
          skip
          refine hK.out _ _ (trivial) (fun hHeld => ?_)
          clear hK K
          try simp only [Act.put, List.setIfInBounds_toArray, List.set_cons_zero, List.set_cons_succ]
          refine held_call (i := 8) (by kernel_rfl) rfl (by rfl) (fun K hK => ?_)
          go_simp
          skip
          refine hK.out _ _ (trivial) (fun hHeld => ?_)
          clear hK K
          try simp only [Act.put, List.setIfInBounds_toArray, List.set_cons_zero, List.set_cons_succ]
          refine wpAnyH_done (by kernel_rfl) ?_ _
          gi_wp2_with fail
          have hL := (coll_leaf1 hl1 HBLK.out HO.out HES.out HST.out hsz' H03.out HRV.out HG.out.key HX34.out HWR.out HS5.out hby HOW.out).2
          rw [← HSN.out] at hL
          exact hL
      · go_simp
        skip
        refine hK.out _ _ (trivial) (fun hHeld => ?_)
        clear hK K
        try simp only [Act.put, List.setIfInBounds_toArray, List.set_cons_zero, List.set_cons_succ]
        refine held_call (i := 2) (by kernel_rfl) rfl (by rfl) (fun K hK => ?_)
        go_simp
        skip
        refine hK.out _ _ (trivial) (fun hHeld => ?_)
        clear hK K
        try simp only [Act.put, List.setIfInBounds_toArray, List.set_cons_zero, List.set_cons_succ]
        refine held_on (i := 3) (d := (some 40)) (v := ?_) rfl rfl (by kernel_rfl) (by kernel_rfl) (by kernel_rfl) (fun _ _ _ h => h) (by rfl) hHeld ?_ ?_
        rotate_left
        focus (intro w hSw; (try dsimp only at hSw); go_simp; first | done | with_reducible rfl)
        try simp only [Act.put, List.setIfInBounds_toArray, List.set_cons_zero, List.set_cons_succ]
        refine held_call (i := 6) (by kernel_rfl) rfl (by rfl) (fun K hK => ?_)
        skip
        refine wp_append_x _ (.tmp 37) (.tmp 42) 50 rfl (w4.heap.size + 2) 47 i0 _ 7 104 Tryz.underlying50 hi hz0 hz1' hz2 rfl (by decide) s ys.length (flatE ys) (by rfl) HOWN4.out (fun b => b = W3.heap.size) ⟨some ⟨W3.heap.size, 0, none⟩, 1⟩ 1 zeroL (by rfl) HZB.out hz1 h63 hby hbase ?_; intro s3 w5 hown5 hwr5 hs5; obtain ⟨g, cap, rfl, hbg, hnc, hcm, lg5, fg5, z0, z1, z2, z3, z4, z5, z6⟩ := row_zero hown5 (flatE_len ys); have h5 := hwr5.cell0 (o := 0) HX34.out (fun e => by have := (hrow0 _ e).1; omega) lg; have cB5 := h5.1.trans cg; have lB5 := h5.2; have fB5 := (hwr5.fz (w.heap.size + 1) 0).trans ((HX34.out.frozen (o := 0) lg).trans fg.out); have hgB : ¬ g = w.heap.size + 1 := (by omega); have hBg : ¬ w.heap.size + 1 = g := (by omega); have HOW := Lib.hid hown5; have HWR := Lib.hid hwr5; have HS5 := Lib.hid hs5; clear hown5 hwr5 hs5 h5
        refine hK.out _ _ (trivial) (fun hHeld => ?_)
        clear hK K
        try simp only [Act.put, List.setIfInBounds_toArray, List.set_cons_zero, List.set_cons_succ]
        refine held_on (i := 7) (d := (some 44)) (v := ?_) rfl rfl (by kernel_rfl) (by kernel_rfl) (by kernel_rfl) (fun _ _ _ h => h) (by rfl) hHeld ?_ ?_
        rotate_left
        focus (intro w hSw; (try dsimp only at hSw); go_simp; first | done | with_reducible rfl)
        try simp only [Act.put, List.setIfInBounds_toArray, List.set_cons_zero, List.set_cons_succ]
        refine held_two (i := 8) (j := 9) (by kernel_rfl) rfl rfl (by rfl) (by rfl) (fun K hK => ?_) (fun K hK => ?_)
        · go_simp
          skip
          refine hK.out _ _ (trivial) (fun hHeld => ?_)
          clear hK K
          try simp only [Act.put, List.setIfInBounds_toArray, List.set_cons_zero, List.set_cons_succ]
          refine held_call (i := 9) (by kernel_rfl) rfl (by rfl) (fun K hK => ?_)
          go_simp
          skip
          refine hK.out _ _ (trivial) (fun hHeld => ?_)
          clear hK K
          try simp only [Act.put, List.setIfInBounds_toArray, List.set_cons_zero, List.set_cons_succ]
          refine wpAnyH_done (by kernel_rfl) ?_ _
          gi_wp2_with fail
          have hL := (coll_leaf1 hl1 HBLK.out HO.out HES.out HST.out hsz' H03.out HRV.out HG.out.key HX34.out HWR.out HS5.out hby HOW.out).1
          rw [← HSN.out] at hL
          exact hL
        · go_simp
          skip
          refine hK.out _ _ (trivial) (fun hHeld => ?_)
          clear hK K
          try simp only [Act.put, List.setIfInBounds_toArray, List.set_cons_zero, List.set_cons_succ]
          refine held_call (i := 8) (by kernel_rfl) rfl (by rfl) (fun K hK => ?_)
          go_simp
          skip
          refine hK.out _ _ (trivial) (fun hHeld => ?_)
          clear hK K
          try simp only [Act.put, List.setIfInBounds_toArray, List.set_cons_zero, List.set_cons_succ]
          refine wpAnyH_done (by kernel_rfl) ?_ _
          gi_wp2_with fail
          have hL := (coll_leaf1 hl1 HBLK.out HO.out HES.out HST.out hsz' H03.out HRV.out HG.out.key HX34.out HWR.out HS5.out hby HOW.out).2
          rw [← HSN.out] at hL
          exact hL
    · go_simp
      skip
      refine hK.out _ _ (trivial) (fun hHeld => ?_)
      clear hK K
      try simp only [Act.put, List.setIfInBounds_toArray, List.set_cons_zero, List.set_cons_succ]
      refine held_on (i := 3) (d := (some 40)) (v := ?_) rfl rfl (by kernel_rfl) (by kernel_rfl) (by kernel_rfl) (fun _ _ _ h => h) (by rfl) hHeld ?_ ?_
      rotate_left
      focus (intro w hSw; (try dsimp only at hSw); go_simp; first | done | with_reducible rfl)
      try simp only [Act.put, List.setIfInBounds_toArray, List.set_cons_zero, List.set_cons_succ]
      refine held_two (i := 0) (j := 5) (by kernel_rfl) rfl rfl (by rfl) (by rfl) (fun K hK => ?_) (fun K hK => ?_)
      · go_simp
        skip
        refine hK.out _ _ (trivial) (fun hHeld => ?_)
        clear hK K
        try simp only [Act.put, List.setIfInBounds_toArray, List.set_cons_zero, List.set_cons_succ]
        refine held_on (i := 4) (d := (some 41)) (v := ?_) rfl rfl (by kernel_rfl) (by kernel_rfl) (by kernel_rfl) (fun _ _ _ h => h) (by rfl) hHeld ?_ ?_
        rotate_left
        focus (intro w hSw; (try dsimp only at hSw); go_simp; first | done | with_reducible rfl)
        try simp only [Act.put, List.setIfInBounds_toArray, List.set_cons_zero, List.set_cons_succ]
        refine held_call (i := 5) (by kernel_rfl) rfl (by rfl) (fun K hK => ?_)
        go_simp
        skip
        refine hK.out _ _ (trivial) (fun hHeld => ?_)
        clear hK K
        try simp only [Act.put, List.setIfInBounds_toArray, List.set_cons_zero, List.set_cons_succ]
        refine held_call (i := 6) (by kernel_rfl) rfl (by rfl) (fun K hK => ?_)
        skip
        refine wp_append_x _ (.tmp 37) (.tmp 42) 50 rfl (w4.heap.size + 2) 47 i0 _ 7 104 Tryz.underlying50 hi hz0 hz1' hz2 rfl (by decide) s ys.length (flatE ys) (by rfl) HOWN4.out (fun b => b = W3.heap.size) ⟨some ⟨W3.heap.size, 0, none⟩, 1⟩ 1 zeroL (by rfl) HZB.out hz1 h63 hby hbase ?_; intro s3 w5 hown5 hwr5 hs5; obtain ⟨g, cap, rfl, hbg, hnc, hcm, lg5, fg5, z0, z1, z2, z3, z4, z5, z6⟩ := row_zero hown5 (flatE_len ys); have h5 := hwr5.cell0 (o := 0) HX34.out (fun e => by have := (hrow0 _ e).1; omega) lg; have cB5 := h5.1.trans cg; have lB5 := h5.2; have fB5 := (hwr5.fz (w.heap.size + 1) 0).trans ((HX34.out.frozen (o := 0) lg).trans fg.out); have hgB : ¬ g = w.heap.size + 1 := (by omega); have hBg : ¬ w.heap.size + 1 = g := (by omega); have HOW := Lib.hid hown5; have HWR := Lib.hid hwr5; have HS5 := Lib.hid hs5; clear hown5 hwr5 hs5 h5
        refine hK.out _ _ (trivial) (fun hHeld => ?_)
        clear hK K
        try simp only [Act.put, List.setIfInBounds_toArray, List.set_cons_zero, List.set_cons_succ]
        refine held_on (i := 7) (d := (some 44)) (v := ?_) rfl rfl (by kernel_rfl) (by kernel_rfl) (by kernel_rfl) (fun _ _ _ h => h) (by rfl) hHeld ?_ ?_
        rotate_left
        focus (intro w hSw; (try dsimp only at hSw); go_simp; first | done | with_reducible rfl)
        try simp only [Act.put, List.setIfInBounds_toArray, List.set_cons_zero, List.set_cons_succ]
        refine held_two (i := 8) (j := 9) (by kernel_rfl) rfl rfl (by rfl) (by rfl) (fun K hK => ?_) (fun K hK => ?_)
        · go_simp
          skip
          refine hK.out _ _ (trivial) (fun hHeld => ?_)
          clear hK K
          try simp only [Act.put, List.setIfInBounds_toArray, List.set_cons_zero, List.set_cons_succ]
          refine held_call (i := 9) (by kernel_rfl) rfl (by rfl) (fun K hK => ?_)
          go_simp
          skip
          refine hK.out _ _ (trivial) (fun hHeld => ?_)
          clear hK K
          try simp only [Act.put, List.setIfInBounds_toArray, List.set_cons_zero, List.set_cons_succ]
          refine wpAnyH_done (by kernel_rfl) ?_ _
          gi_wp2_with fail
          have hL := (coll_leaf1 hl1 HBLK.out HO.out HES.out HST.out hsz' H03.out HRV.out HG.out.key HX34.out HWR.out HS5.out hby HOW.out).1
          rw [← HSN.out] at hL
          exact hL
        · go_simp
          skip
          refine hK.out _ _ (trivial) (fun hHeld => ?_)
          clear hK K
          try simp only [Act.put, List.setIfInBounds_toArray, List.set_cons_zero, List.set_cons_succ]
          refine held_call (i := 8) (by kernel_rfl) rfl (by rfl) (fun K hK => ?_)
          go_simp
          skip
          refine hK.out _ _ (trivial) (fun hHeld => ?_)
          clear hK K
          try simp only [Act.put, List.setIfInBounds_toArray, List.set_cons_zero, List.set_cons_succ]
          refine wpAnyH_done (by kernel_rfl) ?_ _
          gi_wp2_with fail
          have hL := (coll_leaf1 hl1 HBLK.out HO.out HES.out HST.out hsz' H03.out HRV.out HG.out.key HX34.out HWR.out HS5.out hby HOW.out).2
          rw [← HSN.out] at hL
          exact hL
      · go_simp
        skip
        refine hK.out _ _ (trivial) (fun hHeld => ?_)
        clear hK K
        try simp only [Act.put, List.setIfInBounds_toArray, List.set_cons_zero, List.set_cons_succ]
        refine held_call (i := 0) (by kernel_rfl) rfl (by rfl) (fun K hK => ?_)
        go_simp
        skip
        refine hK.out _ _ (trivial) (fun hHeld => ?_)
        clear hK K
        try simp only [Act.put, List.setIfInBounds_toArray, List.set_cons_zero, List.set_cons_succ]
        refine held_on (i := 4) (d := (some 41)) (v := ?_) rfl rfl (by kernel_rfl) (by kernel_rfl) (by kernel_rfl) (fun _ _ _ h => h) (by rfl) hHeld ?_ ?_
        rotate_left
        focus (intro w hSw; (try dsimp only at hSw); go_simp; first | done | with_reducible rfl)
        try simp only [Act.put, List.setIfInBounds_toArray, List.set_cons_zero, List.set_cons_succ]
        refine held_call (i := 6) (by kernel_rfl) rfl (by rfl) (fun K hK => ?_)
        skip
        refine wp_append_x _ (.tmp 37) (.tmp 42) 50 rfl (w4.heap.size + 2) 47 i0 _ 7 104 Tryz.underlying50 hi hz0 hz1' hz2 rfl (by decide) s ys.length (flatE ys) (by rfl) HOWN4.out (fun b => b = W3.heap.size) ⟨some ⟨W3.heap.size, 0, none⟩, 1⟩ 1 zeroL (by rfl) HZB.out hz1 h63 hby hbase ?_; intro s3 w5 hown5 hwr5 hs5; obtain ⟨g, cap, rfl, hbg, hnc, hcm, lg5, fg5, z0, z1, z2, z3, z4, z5, z6⟩ := row_zero hown5 (flatE_len ys); have h5 := hwr5.cell0 (o := 0) HX34.out (fun e => by have := (hrow0 _ e).1; omega) lg; have cB5 := h5.1.trans cg; have lB5 := h5.2; have fB5 := (hwr5.fz (w.heap.size + 1) 0).trans ((HX34.out.frozen (o := 0) lg).trans fg.out); have hgB : ¬ g = w.heap.size + 1 := (by omega); have hBg : ¬ w.heap.size + 1 = g := (by omega); have HOW := Lib.hid hown5; have HWR := Lib.hid hwr5; have HS5 := Lib.hid hs5; clear hown5 hwr5 hs5 h5
        refine hK.out _ _ (trivial) (fun hHeld => ?_)
        clear hK K
        try simp only [Act.put, List.setIfInBounds_toArray, List.set_cons_zero, List.set_cons_succ]
        refine held_on (i := 7) (d := (some 44)) (v := ?_) rfl rfl (by kernel_rfl) (by kernel_rfl) (by kernel_rfl) (fun _ _ _ h => h) (by rfl) hHeld ?_ ?_
        rotate_left
        focus (intro w hSw; (try dsimp only at hSw); go_simp; first | done | with_reducible rfl)
        try simp only [Act.put, List.setIfInBounds_toArray, List.set_cons_zero, List.set_cons_succ]
        refine held_two (i := 8) (j := 9) (by kernel_rfl) rfl rfl (by rfl) (by rfl) (fun K hK => ?_) (fun K hK => ?_)
        · go_simp
          skip
          refine hK.out _ _ (trivial) (fun hHeld => ?_)
          clear hK K
          try simp only [Act.put, List.setIfInBounds_toArray, List.set_cons_zero, List.set_cons_succ]
          refine held_call (i := 9) (by kernel_rfl) rfl (by rfl) (fun K hK => ?_)
          go_simp
          skip
          refine hK.out _ _ (trivial) (fun hHeld => ?_)
          clear hK K
          try simp only [Act.put, List.setIfInBounds_toArray, List.set_cons_zero, List.set_cons_succ]
          refine wpAnyH_done (by kernel_rfl) ?_ _
          gi_wp2_with fail
          have hL := (coll_leaf1 hl1 HBLK.out HO.out HES.out HST.out hsz' H03.out HRV.out HG.out.key HX34.out HWR.out HS5.out hby HOW.out).1
          rw [← HSN.out] at hL
          exact hL
        · go_simp
          skip
          refine hK.out _ _ (trivial) (fun hHeld => ?_)
          clear hK K
          try simp only [Act.put, List.setIfInBounds_toArray, List.set_cons_zero, List.set_cons_succ]
          refine held_call (i := 8) (by kernel_rfl) rfl (by rfl) (fun K hK => ?_)
          go_simp
          skip
          refine hK.out _ _ (trivial) (fun hHeld => ?_)
          clear hK K
          try simp only [Act.put, List.setIfInBounds_toArray, List.set_cons_zero, List.set_cons_succ]
          refine wpAnyH_done (by kernel_rfl) ?_ _
          gi_wp2_with fail
          have hL := (coll_leaf1 hl1 HBLK.out HO.out HES.out HST.out hsz' H03.out HRV.out HG.out.key HX34.out HWR.out HS5.out hby HOW.out).2
          rw [← HSN.out] at hL
          exact hL
    · go_simp
      skip
      refine hK.out _ _ (trivial) (fun hHeld => ?_)
      clear hK K
      try simp only [Act.put, List.setIfInBounds_toArray, List.set_cons_zero, List.set_cons_succ]
      refine held_two (i := 0) (j := 2) (by kernel_rfl) rfl rfl (by rfl) (by rfl) (fun K hK => ?_) (fun K hK => ?_)
      · go_simp
        skip
        refine hK.out _ _ (trivial) (fun hHeld => ?_)
        clear hK K
        try simp only [Act.put, List.setIfInBounds_toArray, List.set_cons_zero, List.set_cons_succ]
        refine held_on (i := 4) (d := (some 41)) (v := ?_) rfl rfl (by kernel_rfl) (by kernel_rfl) (by kernel_rfl) (fun _ _ _ h => h) (by rfl) hHeld ?_ ?_
        rotate_left
        focus (intro w hSw; (try dsimp only at hSw); go_simp; first | done | with_reducible rfl)
        try simp only [Act.put, List.setIfInBounds_toArray, List.set_cons_zero, List.set_cons_succ]
        refine held_call (i := 2) (by kernel_rfl) rfl (by rfl) (fun K hK => ?_)
        go_simp
        skip
        refine hK.out _ _ (trivial) (fun hHeld => ?_)
        clear hK K
        try simp only [Act.put, List.setIfInBounds_toArray, List.set_cons_zero, List.set_cons_succ]
        refine held_on (i := 3) (d := (some 40)) (v := ?_) rfl rfl (by kernel_rfl) (by kernel_rfl) (by kernel_rfl) (fun _ _ _ h => h) (by rfl) hHeld ?_ ?_
        rotate_left
        focus (intro w hSw; (try dsimp only at hSw); go_simp; first | done | with_reducible rfl)
        try simp only [Act.put, List.setIfInBounds_toArray, List.set_cons_zero, List.set_cons_succ]
        refine held_call (i := 6) (by kernel_rfl) rfl (by rfl) (fun K hK => ?_)
        skip
        refine wp_append_x _ (.tmp 37) (.tmp 42) 50 rfl (w4.heap.size + 2) 47 i0 _ 7 104 Tryz.underlying50 hi hz0 hz1' hz2 rfl (by decide) s ys.length (flatE ys) (by rfl) HOWN4.out (fun b => b = W3.heap.size) ⟨some ⟨W3.heap.size, 0, none⟩, 1⟩ 1 zeroL (by rfl) HZB.out hz1 h63 hby hbase ?_; intro s3 w5 hown5 hwr5 hs5; obtain ⟨g, cap, rfl, hbg, hnc, hcm, lg5, fg5, z0, z1, z2, z3, z4, z5, z6⟩ := row_zero hown5 (flatE_len ys); have h5 := hwr5.cell0 (o := 0) HX34.out (fun e => by have := (hrow0 _ e).1; omega) lg; have cB5 := h5.1.trans cg; have lB5 := h5.2; have fB5 := (hwr5.fz (w.heap.size + 1) 0).trans ((HX34.out.frozen (o := 0) lg).trans fg.out); have hgB : ¬ g = w.heap.size + 1 := (by omega); have hBg : ¬ w.heap.size + 1 = g := (by omega); have HOW := Lib.hid hown5; have HWR := Lib.hid hwr5; have HS5 := Lib.hid hs5; clear hown5 hwr5 hs5 h5
        refine hK.out _ _ (trivial) (fun hHeld => ?_)
        clear hK K
        try simp only [Act.put, List.setIfInBounds_toArray, List.set_cons_zero, List.set_cons_succ]
        refine held_on (i := 7) (d := (some 44)) (v := ?_) rfl rfl (by kernel_rfl) (by kernel_rfl) (by kernel_rfl) (fun _ _ _ h => h) (by rfl) hHeld ?_ ?_
        rotate_left
        focus (intro w hSw; (try dsimp only at hSw); go_simp; first | done | with_reducible rfl)
        try simp only [Act.put, List.setIfInBounds_toArray, List.set_cons_zero, List.set_cons_succ]
        refine held_two (i := 8) (j := 9) (by kernel_rfl) rfl rfl (by rfl) (by rfl) (fun K hK => ?_) (fun K hK => ?_)
        · go_simp
          skip
          refine hK.out _ _ (trivial) (fun hHeld => ?_)
          clear hK K
          try simp only [Act.put, List.setIfInBounds_toArray, List.set_cons_zero, List.set_cons_succ]
          refine held_call (i := 9) (by kernel_rfl) rfl (by rfl) (fun K hK => ?_)
          go_simp
          skip
          refine hK.out _ _ (trivial) (fun hHeld => ?_)
          clear hK K
          try simp only [Act.put, List.setIfInBounds_toArray, List.set_cons_zero, List.set_cons_succ]
          refine wpAnyH_done (by kernel_rfl) ?_ _
          gi_wp2_with fail
          have hL := (coll_leaf1 hl1 HBLK.out HO.out HES.out HST.out hsz' H03.out HRV.out HG.out.key HX34.out HWR.out HS5.out hby HOW.out).1
          rw [← HSN.out] at hL
          exact hL
        · go_simp
          skip
          refine hK.out _ _ (trivial) (fun hHeld => ?_)
          clear hK K
          try simp only [Act.put, List.setIfInBounds_toArray, List.set_cons_zero, List.set_cons_succ]
          refine held_call (i := 8) (by kernel_rfl) rfl (by rfl) (fun K hK => ?_)
          go_simp
          skip
          refine hK.out _ _ (trivial) (fun hHeld => ?_)
          clear hK K
          try simp only [Act.put, List.setIfInBounds_toArray, List.set_cons_zero, List.set_cons_succ]
          refine wpAnyH_done (by kernel_rfl) ?_ _
          gi_wp2_with fail
          have hL := (coll_leaf1 hl1 HBLK.out HO.out HES.out HST.out hsz' H03.out HRV.out HG.out.key HX34.out HWR.out HS5.out hby HOW.out).2
          rw [← HSN.out] at hL
          exact hL
      · go_simp
        skip
        refine hK.out _ _ (trivial) (fun hHeld => ?_)
        clear hK K
        try simp only [Act.put, List.setIfInBounds_toArray, List.set_cons_zero, List.set_cons_succ]
        refine held_on (i := 3) (d := (some 40)) (v := ?_) rfl rfl (by kernel_rfl) (by kernel_rfl) (by kernel_rfl) (fun _ _ _ h => h) (by rfl) hHeld ?_ ?_
        rotate_left
        focus (intro w hSw; (try dsimp only at hSw); go_simp; first | done | with_reducible rfl)
        try simp only [Act.put, List.setIfInBounds_toArray, List.set_cons_zero, List.set_cons_succ]
        refine held_call (i := 0) (by kernel_rfl) rfl (by rfl) (fun K hK => ?_)
        go_simp
        skip
        refine hK.out _ _ (trivial) (fun hHeld => ?_)
        clear hK K
        try simp only [Act.put, List.setIfInBounds_toArray, List.set_cons_zero, List.set_cons_succ]
        refine held_on (i := 4) (d := (some 41)) (v := ?_) rfl rfl (by kernel_rfl) (by kernel_rfl) (by kernel_rfl) (fun _ _ _ h => h) (by rfl) hHeld ?_ ?_
        rotate_left
        focus (intro w hSw; (try dsimp only at hSw); go_simp; first | done | with_reducible rfl)
        try simp only [Act.put, List.setIfInBounds_toArray, List.set_cons_zero, List.set_cons_succ]
        refine held_call (i := 6) (by kernel_rfl) rfl (by rfl) (fun K hK => ?_)
        skip
        refine wp_append_x _ (.tmp 37) (.tmp 42) 50 rfl (w4.heap.size + 2) 47 i0 _ 7 104 Tryz.underlying50 hi hz0 hz1' hz2 rfl (by decide) s ys.length (flatE ys) (by rfl) HOWN4.out (fun b => b = W3.heap.size) ⟨some ⟨W3.heap.size, 0, none⟩, 1⟩ 1 zeroL (by rfl) HZB.out hz1 h63 hby hbase ?_; intro s3 w5 hown5 hwr5 hs5; obtain ⟨g, cap, rfl, hbg, hnc, hcm, lg5, fg5, z0, z1, z2, z3, z4, z5, z6⟩ := row_zero hown5 (flatE_len ys); have h5 := hwr5.cell0 (o := 0) HX34.out (fun e => by have := (hrow0 _ e).1; omega) lg; have cB5 := h5.1.trans cg; have lB5 := h5.2; have fB5 := (hwr5.fz (w.heap.size + 1) 0).trans ((HX34.out.frozen (o := 0) lg).trans fg.out); have hgB : ¬ g = w.heap.size + 1 := (by omega); have hBg : ¬ w.heap.size + 1 = g := (by omega); have HOW := Lib.hid hown5; have HWR := Lib.hid hwr5; have HS5 := Lib.hid hs5; clear hown5 hwr5 hs5 h5
        refine hK.out _ _ (trivial) (fun hHeld => ?_)
        clear hK K
        try simp only [Act.put, List.setIfInBounds_toArray, List.set_cons_zero, List.set_cons_succ]
        refine held_on (i := 7) (d := (some 44)) (v := ?_) rfl rfl (by kernel_rfl) (by kernel_rfl) (by kernel_rfl) (fun _ _ _ h => h) (by rfl) hHeld ?_ ?_
        rotate_left
        focus (intro w hSw; (try dsimp only at hSw); go_simp; first | done | with_reducible rfl)
        try simp only [Act.put, List.setIfInBounds_toArray, List.set_cons_zero, List.set_cons_succ]
        refine held_two (i := 8) (j := 9) (by kernel_rfl) rfl rfl (by rfl) (by rfl) (fun K hK => ?_) (fun K hK => ?_)
        · go_simp
          skip
          refine hK.out _ _ (trivial) (fun hHeld => ?_)
          clear hK K
          try simp only [Act.put, List.setIfInBounds_toArray, List.set_cons_zero, List.set_cons_succ]
          refine held_call (i := 9) (by kernel_rfl) rfl (by rfl) (fun K hK => ?_)
          go_simp
          skip
          refine hK.out _ _ (trivial) (fun hHeld => ?_)
          clear hK K
          try simp only [Act.put, List.setIfInBounds_toArray, List.set_cons_zero, List.set_cons_succ]
          refine wpAnyH_done (by kernel_rfl) ?_ _
          gi_wp2_with fail
          have hL := (coll_leaf1 hl1 HBLK.out HO.out HES.out HST.out hsz' H03.out HRV.out HG.out.key HX34.out HWR.out HS5.out hby HOW.out).1
          rw [← HSN.out] at hL
          exact hL
        · go_simp
          skip
          refine hK.out _ _ (trivial) (fun hHeld => ?_)
          clear hK K
          try simp only [Act.put, List.setIfInBounds_toArray, List.set_cons_zero, List.set_cons_succ]
          refine held_call (i := 8) (by kernel_rfl) rfl (by rfl) (fun K hK => ?_)
          go_simp
          skip
          refine hK.out _ _ (trivial) (fun hHeld => ?_)
          clear hK K
          try simp only [Act.put, List.setIfInBounds_toArray, List.set_cons_zero, List.set_cons_succ]
          refine wpAnyH_done (by kernel_rfl) ?_ _
          gi_wp2_with fail
          have hL := (coll_leaf1 hl1 HBLK.out HO.out HES.out HST.out hsz' H03.out HRV.out HG.out.key HX34.out HWR.out HS5.out hby HOW.out).2
          rw [← HSN.out] at hL
          exact hL
  case done =>
    rintro D xs C W hD hS ⟨⟨s', ys, rfl, hblk, ho, hes⟩, hst, hsz⟩ hDk
    have cL : W.cell? ⟨w.heap.size + 1, 0, none⟩ = some (.slice s'.a ys.length s'.c) := hblk.cell 0
    have lL := hblk.lt
    have hk' : St (fun b => b = D) W (W.putObj D (.deferred none)) := St.put hDk rfl rfl
    have hrow0 : ∀ b, s'.row = some b → w4.heap.size + 2 ≤ b ∧ b < W.heap.size := fun b hb => own_row ho.own hb
    have hzx := HX.out.size
    have hzk := hk'.size
    have hfin : ResultPost (rangeE lo hi' op (entsT T)) w (.returned (.tuple #[.slice s'.a ys.length s'.c, .int .i64 0])) (W.putObj D (.deferred none)) := by
      refine ⟨s', ys, rfl, by rw [hes]; exact hS, ?_, ?_⟩
      · refine (HX.out.step hst (fun b hb => by omega)).step hk' fun b hb => ?_
        omega
      · exact ((ho.agree' (hk'.agree.mono fun i hi => ⟨hi.2, by have := hi.1; omega⟩) hk'.size).es).mono fun b hb => ⟨by have := hb.1; omega, hb.2⟩
    have HFIN := Lib.hid hfin
    have HDK := Lib.hid hDk
    clear hblk ho hes hst hsz hDk hk' hfin hS
    gi_wp2_with fail
    refine ⟨by simp, .inl ⟨_, _, rfl, run_takeDeferred HDK.out, ?_⟩⟩
    refine ⟨.tuple #[.slice s'.a ys.length s'.c, .int .i64 0], ?_, HFIN.out⟩
    simp [results, Tryz.f19, go_sem]
end Go.Proofs.YtohajcflklejjaaGreat
namespace Go.Proofs.YtohajcflklejjaaGreat
open Go.RowKit
set_option linter.unusedVariables false
set_option linter.unusedSimpArgs false
abbrev kK : ByteArray := ⟨#[107]⟩
abbrev q0 : Qy := ⟨1, ⟨#[]⟩, ⟨#[]⟩, false⟩
theorem may0 : mayQ q0 = 0 := by
  have h : (ByteArray.mk #[]).toList = [] := by rw [ByteArray.toList_eq]
  simp [mayQ, h]
theorem iv0 {s : Iv} (h : IvOf q0 s) (k : ByteArray) : withB k s.lo s.hi s.op = true := by
  rw [h.has may0, inQ, if_pos may0, if_pos rfl]
  show (ByteArray.toList _).isPrefixOf _ = true
  rw [show ByteArray.toList (⟨#[]⟩ : ByteArray) = [] by rw [ByteArray.toList_eq]]
  rfl
theorem evl_one {s : Iv} {i : Nat} {c : Chg} (h : withB c.k s.lo s.hi s.op = true) : evL [(i, s)] [c] = [(i, c)] := by
  simp only [evL, List.flatMap_cons, List.flatMap_nil, List.filter_cons, List.filter_nil, h, if_true, List.map_cons, List.map_nil, List.append_nil]
theorem range_one {s : Iv} {e : Ent} (h : withB e.1 s.lo s.hi s.op = true) : rangeE s.lo s.hi s.op [e] = [e] := by
  have : inI s.lo s.hi s.op e = true := h
  simp [rangeE, this]
theorem ev_one_of {evs : List EV} {i : Nat} {c : Chg} (h : evs.map EV.p = [(i, c)]) : ∃ a1 a2 a3 a4, evs = [⟨i, ⟨c, a1, a2, a3, a4⟩⟩] := by
  match evs, h with
  | [⟨j, ⟨d, a1, a2, a3, a4⟩⟩], h =>
    simp only [List.map_cons, List.map_nil, List.cons.injEq, Prod.mk.injEq, and_true] at h
    obtain ⟨rfl, rfl⟩ := h
    exact ⟨a1, a2, a3, a4, rfl⟩
theorem le_one_of {ys : List LE} {e : Ent} (h : ys.map LE.ent = [e]) : ∃ s1 s2, ys = [⟨e.1, e.2, s1, s2⟩] := by
  match ys, h with
  | [⟨k, v, s1, s2⟩], h =>
    simp only [LE.ent, List.map_cons, List.map_nil, List.cons.injEq, and_true] at h
    subst h
    exact ⟨s1, s2, rfl⟩
set_option maxRecDepth 100000 in
set_option maxHeartbeats 8000000 in
theorem subsown_w (n : Int) (wn : (Lit.int .i64 n).wf = true) (w : World) : Calls Tryz.prog 4 #[.int .i64 n] w fun e w' => e = .returned (.bool true) ∧ Below w.heap.size w w' := by
  go_enter Tryz.func4, Tryz.ntmps4
  go_wp2_with fail
  generalize hW0 : World.alloc w _ = w0
  have hreg0 : RegAt w0 w.heap.size none 0 none [] := by rw [← hW0]; exact RegAt.new (Blk.new _ _ _)
  have hb0 : Below w.heap.size w w0 := by rw [← hW0]; exact ((Ext.refl w).alloc _ _).below
  clear hW0
  refine (add_may hreg0 (by omega) q0 ⟨by decide, by decide⟩ may0).mono ?_
  rintro e w1 ⟨s1, mb1, rfl, hiv1, hreg1, hmb1, hsb1⟩
  have HB1 := Lib.hid (Sb.step hb0 hsb1 fun b hb => by
    rcases hb with rfl | hb
    · exact Nat.le_refl _
    · cases hb)
  have HIV1 := Lib.hid hiv1
  have HREG1 := Lib.hid hreg1
  clear hb0 hreg0 hiv1 hmb1 hsb1 hreg1
  go_wp2_with fail
  generalize hW2 : World.alloc (World.alloc (World.alloc _ _) _) _ = w2
  obtain ⟨hx2, hz2, hbl, hbv, hbe⟩ := three_blocks w1 _ _ _ _ _ _ w2 hW2
  clear hW2
  have hrv2 : RV w2 (Lt w2.heap.size) (listV n) ⟨some ⟨w1.heap.size, 0, none⟩, 1⟩ Sl.none := rv_list hbl hbl.lt wn
  have HX2 := Lib.hid hx2
  have HBL := Lib.hid hbl
  have HBV := Lib.hid hbv
  refine (tree_one (w := w2) (a := kK) (v := listV n) (by decide) hrv2 hbe).mono ?_
  rintro e w3 ⟨T, p, rfl, hp, ok, he, hT, hx3⟩
  have HX3 := Lib.hid hx3
  have HP := Lib.hid hp
  have HOK := Lib.hid ok
  have HE := Lib.hid he
  have HT := Lib.hid hT
  clear hp ok he hT hx3 hbl hbv hbe hrv2 hx2 hz2
  go_wp2_with fail
  generalize hW4 : World.alloc w3 _ = w4
  have hx34 : Ext w3 w4 := by rw [← hW4]; exact (Ext.refl _).alloc _ _
  have hb7 : Blk w4 w3.heap.size 33 #[.pointer p] := by rw [← hW4]; exact Blk.new w3 _ _
  clear hW4
  have hx14 := HX2.out.trans (HX3.out.trans hx34)
  have hz14 := hx14.size
  have hz12 := HX2.out.size
  have hz23 := HX3.out.size
  have hz34 := hx34.size
  have hT4 : IsT w4 (In w2.heap.size w3.heap.size) T := HT.out.agree (hx34.agree fun b hb => hb.2)
  have hFB : ∀ b, In w2.heap.size w3.heap.size b → ¬ RegB w.heap.size mb1 b := fun b hb h => by have := regB_old HREG1.out b h; have := hb.1; omega
  have haf := after27_any (HREG1.out.ext hx14) (T := none) (F := fun _ => False) (U := T) trivial hT4 (fun b hb => hb.elim) (fun b hb => ⟨by have := hb.2; omega, hFB b hb⟩) trivial HOK.out (by simp [entsT]) (by rw [HE.out]; simp) (by simp) (live12 (by simp))
  rw [treeV, HP.out, HE.out] at haf
  rw [show chg (entsT none) [(kK, listV n)] = [comeC (kK, listV n)] from by rw [show entsT none = [] from rfl, nil_chg]; rfl] at haf
  have HAF := Lib.hid haf
  have HX14 := Lib.hid hx14
  have HT4 := Lib.hid hT4
  have HB7 := Lib.hid hb7
  have HFB := Lib.hid hFB
  have HBLA := Lib.hid (HBL.out.ext (HX3.out.trans hx34))
  have HBVA := Lib.hid (HBV.out.ext (HX3.out.trans hx34))
  clear haf hx14 hT4 hx34 hb7 hFB
  refine HAF.out.mono ?_
  rintro e w5 ⟨sl, evs, rfl, hmap, hreg5, hst5, hevs⟩
  have hmap' : evs.map EV.p = [(1, comeC (kK, listV n))] := by rw [hmap]; exact evl_one (iv0 HIV1.out _)
  obtain ⟨a1, a2, a3, a4, rfl⟩ := ev_one_of hmap'
  have hT5 : IsT w5 (In w2.heap.size w3.heap.size) T := HT4.out.agree (hst5.agree.mono fun b hb => ⟨by have := hb.2; omega, fun e => HFB.out b hb (.inl e)⟩)
  have hz45 := hst5.size
  have hre := result27_any hreg5 hT5 (fun b hb => by have := hb.2; omega) HOK.out (by rw [HE.out]; simp) (i := 1) (iv := s1) rfl (by decide)
  rw [HE.out, range_one (iv0 HIV1.out _)] at hre
  have HRE := Lib.hid hre
  have HREG5 := Lib.hid hreg5
  have HST5 := Lib.hid hst5
  have HEVS := Lib.hid hevs
  have HT5 := Lib.hid hT5
  clear hmap hmap' hreg5 hst5 hevs hT5 hre
  go_wp2_with fail
  refine HRE.out.mono ?_
  rintro e w6 ⟨sr, ys, rfl, hys, hx6, hes⟩
  obtain ⟨y1, y2, rfl⟩ := le_one_of hys
  have hev6 : EVS w6 (In w4.heap.size w5.heap.size) sl _ := HEVS.out.agree (hx6.agree fun b hb => hb.2)
  obtain ⟨eb, eo, hsa, hFe, hc1, hc2, hcr, hcl⟩ := hev6.at (i := 0) rfl
  have ce : w6.cell? ⟨eb, eo + 0 * 16 + 14, none⟩ = some (.slice a3.a 1 a3.c) := hcl 14 _ rfl
  rw [Nat.zero_mul, Nat.add_zero] at ce
  obtain ⟨b1, o1, c1, hs3, hF1, hc1', -, cn1⟩ := one_list hcr.is_
  obtain ⟨gb, go_, hsa', hFg, hd1, hd2, -, hvc, hrv, -⟩ := hes.at (i := 0) rfl
  have cg : w6.cell? ⟨gb, go_ + 1 + 4, none⟩ = some (.slice y1.a 1 y1.c) := by
    have := hvc.c4
    rw [Nat.zero_mul, Nat.add_zero] at this
    exact this
  obtain ⟨b2, o2, c2, hs4, hF2, hc2', -, cn2⟩ := one_list hrv
  obtain ⟨sla, slc⟩ := sl
  obtain ⟨sra, src⟩ := sr
  dsimp only at hsa hsa' hs3 hs4 hc1 hd1 ce cg
  subst hsa hsa' hs3 hs4
  have hz56 := hx6.size
  have leb : eb < w6.heap.size := by have := hFe.2; omega
  have lgb : gb < w6.heap.size := hFg.2
  have lb1 : b1 < w6.heap.size := by have := hF1.2; omega
  have lb2 : b2 < w6.heap.size := hF2.2
  have fr1 : w6.frozen? ⟨b1, o1 + 2, none⟩ = false := (hx6.frozen hF1.2).trans ((HST5.out.fz b1 (o1 + 2)).trans (frozen_none hF1.1))
  have fr2 : w6.frozen? ⟨b2, o2 + 2, none⟩ = false := hx6.free b2 (o2 + 2) hF2.1
  have hb12 : ¬ b1 = b2 := by have := hF1.2; have := hF2.1; omega
  have hb21 : ¬ b2 = b1 := fun e => hb12 e.symm
  have hbe1 : ¬ gb = b1 := by have := hF1.2; have := hFg.1; omega
  have e14 : eo + 1 + 9 + 4 = eo + 14 := by omega
  have HX6 := Lib.hid hx6
  clear hys hx6 hes hev6 hcr hcl hvc hrv
  go_wp2_with fail
  generalize hW7 : World.setCell (World.setCell _ _ _) _ _ = w7
  have hst7 : St (fun b => b = b1 ∨ b = b2) w6 w7 := by rw [← hW7]; exact ((St.refl (fun b => b = b1 ∨ b = b2) w6).set (p := ⟨b1, o1 + 2, none⟩) (.inr (.inl rfl)) _).set (p := ⟨b2, o2 + 2, none⟩) (.inr (.inr rfl)) _
  clear hW7
  have hlo : ∀ b, (b = b1 ∨ b = b2) → w4.heap.size ≤ b := fun b hb => by
    rcases hb with rfl | rfl
    · exact hF1.1
    · have := hF2.1; omega
  have hreg7 : RegAt w7 w.heap.size T (0 + 1) mb1 ([] ++ [(0 + 1, s1)]) := (HREG5.out.ext HX6.out).sb hst7.sb fun b hb h => by have := regB_old HREG1.out b hb; have := hlo b h; omega
  have hT7 : IsT w7 (In w2.heap.size w3.heap.size) T := (HT5.out.agree (HX6.out.agree fun b hb => by have := hb.2; omega)).agree (hst7.agree.mono fun b hb => ⟨by have := hb.2; omega, fun h => by have := hlo b h; have := hb.2; omega⟩)
  have hz67 := hst7.size
  have hre := result27_any hreg7 hT7 (fun b hb => by have := hb.2; omega) HOK.out (by rw [HE.out]; simp) (i := 1) (iv := s1) rfl (by decide)
  rw [HE.out, range_one (iv0 HIV1.out _)] at hre
  have HRE2 := Lib.hid hre
  have HST7 := Lib.hid hst7
  have HT7 := Lib.hid hT7
  have HLO := Lib.hid hlo
  clear hst7 hlo hreg7 hT7 hre ce cg cn1 cn2 fr1 fr2
  refine HRE2.out.mono ?_
  rintro e w8 ⟨sq, zs, rfl, hzs, hx8, hesz⟩
  obtain ⟨y3, y4, rfl⟩ := le_one_of hzs
  have hz78 := hx8.size
  have hA48 : ∀ b, b < w4.heap.size → ¬ b = w.heap.size → w8.heap[b]? = w4.heap[b]? := fun b hb hne => (hx8.heap (by omega)).trans ((HST7.out.block b (by omega) fun h => by have := HLO.out b h; omega).trans ((HX6.out.heap (by omega)).trans (HST5.out.block b hb hne)))
  have hRlt : w.heap.size < w1.heap.size := HREG1.out.blk.lt
  have hb7 : Blk w8 w3.heap.size 33 #[.pointer p] := (hA48 _ HB7.out.lt (by omega)).trans HB7.out
  have t7 : w8.cell? ⟨w3.heap.size, 0, none⟩ = some (.pointer p) := hb7.cell 0
  have l7 := hb7.lt
  have hT8 : IsT w8 (In w2.heap.size w3.heap.size) T := HT7.out.agree (hx8.agree fun b hb => by have := hb.2; omega)
  have hget := treeGet_any (fun b hb => by have := hb.2; omega) hT8 HOK.out (by rw [HE.out]; simp) kK
  rw [HE.out, treeV, HP.out, show getE [(kK, listV n)] kK = some (listV n) from by simp [getE]] at hget
  have HGET := Lib.hid hget
  have HESZ := Lib.hid hesz
  have HX8 := Lib.hid hx8
  have HA48 := Lib.hid hA48
  clear hzs hx8 hesz hT8 hget hb7 hA48
  go_wp2_with fail
  refine HGET.out.mono ?_
  rintro e w9 ⟨g1, g2, rfl, hx9, hrg⟩
  have HX9 := Lib.hid hx9
  have HRG := Lib.hid hrg
  clear hx9 hrg
  go_wp2_with fail
  generalize hW10 : World.alloc w9 _ = w10
  have hx10 : Ext w9 w10 := by rw [← hW10]; exact (Ext.refl _).alloc _ _
  have hbz : Blk w10 w9.heap.size 44 #[.int .i64 5, .bool false, .int .i64 0, .string ByteArray.empty, .slice g1.a 1 g1.c, .slice g2.a 0 g2.c] := by rw [← hW10]; exact Blk.new w9 _ _
  clear hW10
  have hx810 := HX9.out.trans hx10
  have hz810 := hx810.size
  have hz89 := HX9.out.size
  have hz910 := hx10.size
  obtain ⟨zb, zo, hsq, hFz, hq1, hq2, -, hvz, hrz, -⟩ := HESZ.out.at (i := 0) rfl
  obtain ⟨sqa, sqc⟩ := sq
  dsimp only at hsq hq1
  subst hsq
  rw [Nat.zero_mul, Nat.add_zero] at hvz
  have hzb : zb < w8.heap.size := hFz.2
  have hbv8 : Blk w8 (w1.heap.size + 1) 44 #[.int .i64 5, .bool false, .int .i64 0, .string ByteArray.empty, .slice (some ⟨w1.heap.size, 0, none⟩) 1 1, .slice none 0 0] := (HA48.out _ HBVA.out.lt (by omega)).trans HBVA.out
  have hbl8 : Blk w8 w1.heap.size 44 #[.int .i64 3, .bool false, .int .i64 n, .string ByteArray.empty, .slice none 0 0, .slice none 0 0] := (HA48.out _ HBLA.out.lt (by omega)).trans HBLA.out
  have hb8W : ∀ W, Below w10.heap.size w10 W → ∀ b, b < w8.heap.size → W.heap[b]? = w8.heap[b]? := fun W hW b hb => (hW.block b (by omega)).trans (hx810.heap hb)
  have hvv : ∀ W, Below w10.heap.size w10 W → RV W (Lt W.heap.size) (listV n) ⟨some ⟨w1.heap.size, 0, none⟩, 1⟩ Sl.none := fun W hW => rv_list ((hb8W W hW _ hbl8.lt).trans hbl8) (by have := hW.size; have := hbl8.lt; show _ < _; omega) wn
  have HEQ1 := Lib.hid (show ∀ W, Below w10.heap.size w10 W → Calls Tryz.prog 21 #[.agg #[.int .i64 5, .bool false, .int .i64 0, .string ByteArray.empty, .slice y3.a 1 y3.c, .slice y4.a 0 y4.c], .agg #[.int .i64 5, .bool false, .int .i64 0, .string ByteArray.empty, .slice (some ⟨w1.heap.size, 0, none⟩) 1 1, .slice none 0 0]] W fun e w' => e = .returned (.bool true) ∧ Ext W w' from
    fun W hW => equal_list (sl' := ⟨some ⟨w1.heap.size, 0, none⟩, 1⟩) (so' := Sl.none) ((hrz.agree fun b hb => hb8W W hW b hb.2).mono fun b hb => by have := hb.2; have := hW.size; show b < _; omega) (hvv W hW))
  have HEQ2 := Lib.hid (show ∀ W, Below w10.heap.size w10 W → Calls Tryz.prog 21 #[.agg #[.int .i64 5, .bool false, .int .i64 0, .string ByteArray.empty, .slice g1.a 1 g1.c, .slice g2.a 0 g2.c], .agg #[.int .i64 5, .bool false, .int .i64 0, .string ByteArray.empty, .slice (some ⟨w1.heap.size, 0, none⟩) 1 1, .slice none 0 0]] W fun e w' => e = .returned (.bool true) ∧ Ext W w' from
    fun W hW => equal_list (sl' := ⟨some ⟨w1.heap.size, 0, none⟩, 1⟩) (so' := Sl.none) (((HRG.out.agree (hx10.agree fun b hb => hb.2)).agree fun b hb => hW.block b (by have := hb.2; omega)).mono fun b hb => by have := hb.2; have := hW.size; show b < _; omega) (hvv W hW))
  have HSS := Lib.hid (show ∀ W, Below w10.heap.size w10 W → W.cell? ⟨zb, zo + 1, none⟩ = some (.int .i64 5) ∧ W.cell? ⟨zb, zo + 1 + 1, none⟩ = some (.bool false) ∧ W.cell? ⟨zb, zo + 1 + 2, none⟩ = some (.int .i64 0) ∧ W.cell? ⟨zb, zo + 1 + 3, none⟩ = some (.string ByteArray.empty) ∧ W.cell? ⟨zb, zo + 1 + 4, none⟩ = some (.slice y3.a 1 y3.c) ∧ W.cell? ⟨zb, zo + 1 + 5, none⟩ = some (.slice y4.a 0 y4.c) ∧
      W.cell? ⟨w1.heap.size + 1, 0, none⟩ = some (.int .i64 5) ∧ W.cell? ⟨w1.heap.size + 1, 1, none⟩ = some (.bool false) ∧ W.cell? ⟨w1.heap.size + 1, 2, none⟩ = some (.int .i64 0) ∧ W.cell? ⟨w1.heap.size + 1, 3, none⟩ = some (.string ByteArray.empty) ∧ W.cell? ⟨w1.heap.size + 1, 4, none⟩ = some (.slice (some ⟨w1.heap.size, 0, none⟩) 1 1) ∧ W.cell? ⟨w1.heap.size + 1, 5, none⟩ = some (.slice none 0 0) ∧
      W.cell? ⟨w9.heap.size, 0, none⟩ = some (.int .i64 5) ∧ W.cell? ⟨w9.heap.size, 1, none⟩ = some (.bool false) ∧ W.cell? ⟨w9.heap.size, 2, none⟩ = some (.int .i64 0) ∧ W.cell? ⟨w9.heap.size, 3, none⟩ = some (.string ByteArray.empty) ∧ W.cell? ⟨w9.heap.size, 4, none⟩ = some (.slice g1.a 1 g1.c) ∧ W.cell? ⟨w9.heap.size, 5, none⟩ = some (.slice g2.a 0 g2.c) from fun W hW => by
    have hy := hvz.agree (F := fun b => b = zb) (w' := W) (fun b hb => by subst hb; exact hb8W W hW b hzb) rfl
    have hv := (hb8W W hW _ hbv8.lt).trans hbv8
    have hv : Blk W (w1.heap.size + 1) 44 #[.int .i64 5, .bool false, .int .i64 0, .string ByteArray.empty, .slice (some ⟨w1.heap.size, 0, none⟩) 1 1, .slice none 0 0] := hv
    have hz : Blk W w9.heap.size 44 #[.int .i64 5, .bool false, .int .i64 0, .string ByteArray.empty, .slice g1.a 1 g1.c, .slice g2.a 0 g2.c] := (hW.block _ hbz.lt).trans hbz
    exact ⟨hy.c0, hy.c1, hy.c2, hy.c3, hy.c4, hy.c5, hv.cell 0, hv.cell 1, hv.cell 2, hv.cell 3, hv.cell 4, hv.cell 5, hz.cell 0, hz.cell 1, hz.cell 2, hz.cell 3, hz.cell 4, hz.cell 5⟩)
  have hbelow : Below w.heap.size w w10 := by
    have h1 : Below w.heap.size w w4 := Sb.step HB1.out (HX14.out.sb fun _ => False) fun b hb => hb.elim
    have h2 : Below w.heap.size w w5 := Sb.step h1 HST5.out.sb fun b hb => by rw [hb]; exact Nat.le_refl _
    have h3 : Below w.heap.size w w6 := Sb.step h2 (HX6.out.sb fun _ => False) fun b hb => hb.elim
    have h4 : Below w.heap.size w w7 := Sb.step h3 HST7.out.sb fun b hb => by have := HLO.out b hb; have := h1.size; omega
    exact Sb.step h4 ((HX8.out.trans hx810).sb fun _ => False) fun b hb => hb.elim
  have HBELOW := Lib.hid hbelow
  clear hx10 hbz hx810 hvz hrz hbv8 hbl8 hb8W hvv hbelow t7
  refine wp_region_held_drew (S := (fun w' => Below w10.heap.size w10 w')) (by kernel_rfl) ((((Ext.refl w10).drew).below)) (fun hHeld => ?_)
  refine held_on (i := 0) (d := (some 99)) (v := ?_) rfl rfl (by kernel_rfl) (by kernel_rfl) (by kernel_rfl) (fun _ _ _ h => h) (by rfl) hHeld ?_ ?_
  rotate_left
  focus (intro w hSw; have hSc := HSS.out w hSw; clear hSw; go_simp; first | done | with_reducible rfl)
  try simp only [Act.put, List.setIfInBounds_toArray, List.set_cons_zero, List.set_cons_succ]
  refine held_on (i := 1) (d := (some 100)) (v := ?_) rfl rfl (by kernel_rfl) (by kernel_rfl) (by kernel_rfl) (fun _ _ _ h => h) (by rfl) hHeld ?_ ?_
  rotate_left
  focus (intro w hSw; have hSc := HSS.out w hSw; clear hSw; go_simp; first | done | with_reducible rfl)
  try simp only [Act.put, List.setIfInBounds_toArray, List.set_cons_zero, List.set_cons_succ]
  refine held_on (i := 2) (d := (some 101)) (v := ?_) rfl rfl (by kernel_rfl) (by kernel_rfl) (by kernel_rfl) (fun _ _ _ h => h) (by rfl) hHeld ?_ ?_
  rotate_left
  focus (intro w hSw; have hSc := HSS.out w hSw; clear hSw; go_simp; first | done | with_reducible rfl)
  try simp only [Act.put, List.setIfInBounds_toArray, List.set_cons_zero, List.set_cons_succ]
  refine held_on (i := 3) (d := (some 102)) (v := ?_) rfl rfl (by kernel_rfl) (by kernel_rfl) (by kernel_rfl) (fun _ _ _ h => h) (by rfl) hHeld ?_ ?_
  rotate_left
  focus (intro w hSw; have hSc := HSS.out w hSw; clear hSw; go_simp; first | done | with_reducible rfl)
  try simp only [Act.put, List.setIfInBounds_toArray, List.set_cons_zero, List.set_cons_succ]
  refine held_on (i := 4) (d := (some 103)) (v := ?_) rfl rfl (by kernel_rfl) (by kernel_rfl) (by kernel_rfl) (fun _ _ _ h => h) (by rfl) hHeld ?_ ?_
  rotate_left
  focus (intro w hSw; have hSc := HSS.out w hSw; clear hSw; go_simp; first | done | with_reducible rfl)
  try simp only [Act.put, List.setIfInBounds_toArray, List.set_cons_zero, List.set_cons_succ]
  refine held_on (i := 5) (d := (some 104)) (v := ?_) rfl rfl (by kernel_rfl) (by kernel_rfl) (by kernel_rfl) (fun _ _ _ h => h) (by rfl) hHeld ?_ ?_
  rotate_left
  focus (intro w hSw; have hSc := HSS.out w hSw; clear hSw; go_simp; first | done | with_reducible rfl)
  try simp only [Act.put, List.setIfInBounds_toArray, List.set_cons_zero, List.set_cons_succ]
  refine held_on (i := 6) (d := (some 105)) (v := ?_) rfl rfl (by kernel_rfl) (by kernel_rfl) (by kernel_rfl) (fun _ _ _ h => h) (by rfl) hHeld ?_ ?_
  rotate_left
  focus (intro w hSw; have hSc := HSS.out w hSw; clear hSw; go_simp; first | done | with_reducible rfl)
  try simp only [Act.put, List.setIfInBounds_toArray, List.set_cons_zero, List.set_cons_succ]
  refine held_on (i := 7) (d := (some 106)) (v := ?_) rfl rfl (by kernel_rfl) (by kernel_rfl) (by kernel_rfl) (fun _ _ _ h => h) (by rfl) hHeld ?_ ?_
  rotate_left
  focus (intro w hSw; have hSc := HSS.out w hSw; clear hSw; go_simp; first | done | with_reducible rfl)
  try simp only [Act.put, List.setIfInBounds_toArray, List.set_cons_zero, List.set_cons_succ]
  refine held_on (i := 8) (d := (some 107)) (v := ?_) rfl rfl (by kernel_rfl) (by kernel_rfl) (by kernel_rfl) (fun _ _ _ h => h) (by rfl) hHeld ?_ ?_
  rotate_left
  focus (intro w hSw; have hSc := HSS.out w hSw; clear hSw; go_simp; first | done | with_reducible rfl)
  try simp only [Act.put, List.setIfInBounds_toArray, List.set_cons_zero, List.set_cons_succ]
  refine held_on (i := 9) (d := (some 108)) (v := ?_) rfl rfl (by kernel_rfl) (by kernel_rfl) (by kernel_rfl) (fun _ _ _ h => h) (by rfl) hHeld ?_ ?_
  rotate_left
  focus (intro w hSw; have hSc := HSS.out w hSw; clear hSw; go_simp; first | done | with_reducible rfl)
  try simp only [Act.put, List.setIfInBounds_toArray, List.set_cons_zero, List.set_cons_succ]
  refine held_on (i := 10) (d := (some 109)) (v := ?_) rfl rfl (by kernel_rfl) (by kernel_rfl) (by kernel_rfl) (fun _ _ _ h => h) (by rfl) hHeld ?_ ?_
  rotate_left
  focus (intro w hSw; have hSc := HSS.out w hSw; clear hSw; go_simp; first | done | with_reducible rfl)
  try simp only [Act.put, List.setIfInBounds_toArray, List.set_cons_zero, List.set_cons_succ]
  refine held_on (i := 11) (d := (some 110)) (v := ?_) rfl rfl (by kernel_rfl) (by kernel_rfl) (by kernel_rfl) (fun _ _ _ h => h) (by rfl) hHeld ?_ ?_
  rotate_left
  focus (intro w hSw; have hSc := HSS.out w hSw; clear hSw; go_simp; first | done | with_reducible rfl)
  try simp only [Act.put, List.setIfInBounds_toArray, List.set_cons_zero, List.set_cons_succ]
  refine held_call (i := 12) (by kernel_rfl) rfl (by rfl) (fun K hK => ?_)
  go_simp
  (refine (HEQ1.out _ hHeld).mono ?_; rintro e wa ⟨rfl, hxa⟩)
  refine hK.out _ _ (bw_ext hHeld hxa hHeld.size) (fun hHeld => ?_)
  clear hK K
  try simp only [Act.put, List.setIfInBounds_toArray, List.set_cons_zero, List.set_cons_succ]
  refine held_on (i := 13) (d := (some 112)) (v := ?_) rfl rfl (by kernel_rfl) (by kernel_rfl) (by kernel_rfl) (fun _ _ _ h => h) (by rfl) hHeld ?_ ?_
  rotate_left
  focus (intro w hSw; have hSc := HSS.out w hSw; clear hSw; go_simp; first | done | with_reducible rfl)
  try simp only [Act.put, List.setIfInBounds_toArray, List.set_cons_zero, List.set_cons_succ]
  refine held_on (i := 14) (d := (some 113)) (v := ?_) rfl rfl (by kernel_rfl) (by kernel_rfl) (by kernel_rfl) (fun _ _ _ h => h) (by rfl) hHeld ?_ ?_
  rotate_left
  focus (intro w hSw; have hSc := HSS.out w hSw; clear hSw; go_simp; first | done | with_reducible rfl)
  try simp only [Act.put, List.setIfInBounds_toArray, List.set_cons_zero, List.set_cons_succ]
  refine held_on (i := 15) (d := (some 114)) (v := ?_) rfl rfl (by kernel_rfl) (by kernel_rfl) (by kernel_rfl) (fun _ _ _ h => h) (by rfl) hHeld ?_ ?_
  rotate_left
  focus (intro w hSw; have hSc := HSS.out w hSw; clear hSw; go_simp; first | done | with_reducible rfl)
  try simp only [Act.put, List.setIfInBounds_toArray, List.set_cons_zero, List.set_cons_succ]
  refine held_on (i := 16) (d := (some 115)) (v := ?_) rfl rfl (by kernel_rfl) (by kernel_rfl) (by kernel_rfl) (fun _ _ _ h => h) (by rfl) hHeld ?_ ?_
  rotate_left
  focus (intro w hSw; have hSc := HSS.out w hSw; clear hSw; go_simp; first | done | with_reducible rfl)
  try simp only [Act.put, List.setIfInBounds_toArray, List.set_cons_zero, List.set_cons_succ]
  refine held_call (i := 17) (by kernel_rfl) rfl (by rfl) (fun K hK => ?_)
  go_simp
  (refine (HEQ2.out _ hHeld).mono ?_; rintro e wb ⟨rfl, hxb⟩)
  refine hK.out _ _ (bw_ext hHeld hxb hHeld.size) (fun hHeld => ?_)
  clear hK K
  try simp only [Act.put, List.setIfInBounds_toArray, List.set_cons_zero, List.set_cons_succ]
  refine held_on (i := 18) (d := (some 117)) (v := ?_) rfl rfl (by kernel_rfl) (by kernel_rfl) (by kernel_rfl) (fun _ _ _ h => h) (by rfl) hHeld ?_ ?_
  rotate_left
  focus (intro w hSw; have hSc := HSS.out w hSw; clear hSw; go_simp; first | done | with_reducible rfl)
  try simp only [Act.put, List.setIfInBounds_toArray, List.set_cons_zero, List.set_cons_succ]
  refine held_on (i := 19) (d := (some 118)) (v := ?_) rfl rfl (by kernel_rfl) (by kernel_rfl) (by kernel_rfl) (fun _ _ _ h => h) (by rfl) hHeld ?_ ?_
  rotate_left
  focus (intro w hSw; have hSc := HSS.out w hSw; clear hSw; go_simp; first | done | with_reducible rfl)
  try simp only [Act.put, List.setIfInBounds_toArray, List.set_cons_zero, List.set_cons_succ]
  refine held_call (i := 20) (by kernel_rfl) rfl (by rfl) (fun K hK => ?_)
  go_simp
  (refine (known27 _).mono ?_; rintro e wc ⟨rfl, hbc⟩)
  refine hK.out _ _ (bw_know hHeld hbc hHeld.size) (fun hHeld => ?_)
  clear hK K
  try simp only [Act.put, List.setIfInBounds_toArray, List.set_cons_zero, List.set_cons_succ]
  refine held_on (i := 21) (d := (some 120)) (v := ?_) rfl rfl (by kernel_rfl) (by kernel_rfl) (by kernel_rfl) (fun _ _ _ h => h) (by rfl) hHeld ?_ ?_
  rotate_left
  focus (intro w hSw; have hSc := HSS.out w hSw; clear hSw; go_simp; first | done | with_reducible rfl)
  try simp only [Act.put, List.setIfInBounds_toArray, List.set_cons_zero, List.set_cons_succ]
  refine held_on (i := 22) (d := (some 2)) (v := ?_) rfl rfl (by kernel_rfl) (by kernel_rfl) (by kernel_rfl) (fun _ _ _ h => h) (by rfl) hHeld ?_ ?_
  rotate_left
  focus (intro w hSw; have hSc := HSS.out w hSw; clear hSw; go_simp; first | done | with_reducible rfl)
  try simp only [Act.put, List.setIfInBounds_toArray, List.set_cons_zero, List.set_cons_succ]
  refine wpAnyH_done (by kernel_rfl) ?_ _
  go_wp2_with fail
  go_ret
  exact ⟨rfl, HBELOW.out.trans (hHeld.mono HBELOW.out.size)⟩
end Go.Proofs.YtohajcflklejjaaGreat
