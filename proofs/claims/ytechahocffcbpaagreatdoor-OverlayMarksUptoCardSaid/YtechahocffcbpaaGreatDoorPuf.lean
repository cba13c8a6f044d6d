/- What the theorem needs of the texts DeepV, OwnS, OvLay2, LaidO, Bldr, Quo1, Runes, RangeP, RunS, LetR, Quo, QuoW, OwnV, OwnW, OwnM, OwnO, FitV, OvCom0: no condition of its own. -/
import Derived.Laws.IdiomStrings
import Derived.WalkArith
import Derived.Ground.NamesProg
import Derived.Shelf.Strings.Builder1
import Derived.Shelf.Strings.BuilderRune
import Derived.Shelf.Unicode.DecodeAny
import Derived.Lib.LaidU8
import Derived.Lib.LaidTab
import Derived.Lib.ItoaLen
import GoSem.PinnedTables
import Derived.KernelRfl
import Derived.Test.YtechahocffcbpaaGreatDoorRows
import Derived.Shelf.Strings.BuilderK
import Derived.Lib.MapLaws
import Derived.Lib.TrimUEq
import Derived.Lib.RuneBytes
import Derived.Shelf.Unicode.DecodeLastEight
import Derived.Shelf.Strings.MapAny
import Derived.Sort.LoopGhostIn
import Derived.Maps.OwnIn
import Derived.Maps.OwnOps
import Derived.Maps.Views
import Derived.TacticsInMore
import Derived.LoopNIn
import Derived.LoopIn
import Derived.Stop.RegionWithIn
import Derived.Test.YtechahocffcbpaaGreatDoorPua
import Derived.Test.YtechahocffcbpaaGreatDoorPub
import Derived.Test.YtechahocffcbpaaGreatDoorPuc
import Derived.Test.YtechahocffcbpaaGreatDoorPud
import Derived.Test.YtechahocffcbpaaGreatDoorPue
set_option maxRecDepth 100000
set_option maxHeartbeats 4000000
namespace Go.Proofs.YtechahocffcbpaaGreatDoor
open Go.RowKit Go.Maps Go.Shelf
set_option linter.unusedVariables false
set_option linter.unusedSimpArgs false
mutual
/-- How deep a value is. -/
def deepV : Val → Nat
  | .mk k b i t l ok ov => 1 + (if k = 5 then deepL l else if k = 6 then deepL ov else 0)
def deepL : List Val → Nat
  | [] => 0
  | d :: r => max (deepV d) (deepL r)
end
theorem deepL_take : ∀ {l : List Val} {j : Nat} {d : Val}, l[j]? = some d → deepL (l.take (j + 1)) = max (deepL (l.take j)) (deepV d)
  | [], j, d, h => by simp at h
  | x :: r, 0, d, h => by
    simp at h; subst h
    simp [deepL]
  | x :: r, j + 1, d, h => by
    have h' : r[j]? = some d := by simpa using h
    rw [List.take_succ_cons, List.take_succ_cons, deepL, deepL, deepL_take h', Nat.max_assoc]
theorem deepL_le : ∀ {l : List Val} {j : Nat} {d : Val}, l[j]? = some d → deepV d ≤ deepL l
  | [], j, d, h => by simp at h
  | x :: r, 0, d, h => by
    simp at h; subst h
    rw [deepL]; exact Nat.le_max_left _ _
  | x :: r, j + 1, d, h => by
    have h' : r[j]? = some d := by simpa using h
    rw [deepL]; exact Nat.le_trans (deepL_le h') (Nat.le_max_right _ _)
mutual
/-- What may be is at most 64 deep. -/
theorem deep_may : ∀ (v : Val) (q : Nat), mayV v q = 0 → deepV v + q ≤ 65
  | .mk k b i t l ok ov, q, h => by
    unfold mayV at h
    unfold deepV
    split at h
    · cases h
    split at h
    · cases h
    split at h
    · rename_i h4
      subst h4
      simp; omega
    split at h
    · rename_i h5
      rw [if_pos h5]
      have := deep_mayL l (q + 1) h
      omega
    split at h
    · rename_i h5 h6
      rw [if_neg h5, if_pos h6]
      have := deep_mayM _ _ ov (q + 1) h
      omega
    · rename_i h5 h6
      rw [if_neg h5, if_neg h6]
      omega
theorem deep_mayL : ∀ (l : List Val) (q : Nat), mayLV l q = 0 → deepL l + q ≤ 65 ∨ deepL l = 0
  | [], q, h => .inr rfl
  | d :: r, q, h => by
    rw [mayLV] at h
    split at h
    · rename_i h1; exact absurd h h1
    · rename_i h1
      have h2 := deep_may d q (by simpa using h1)
      have h3 := deep_mayL r q h
      rw [deepL]
      left; omega
theorem deep_mayM : ∀ (p : Option ByteArray) (ks : List ByteArray) (l : List Val) (q : Nat), mayM p ks l q = 0 → deepL l + q ≤ 65 ∨ deepL l = 0
  | p, ks, [], q, h => .inr rfl
  | p, ks, d :: r, q, h => by
    rw [mayM] at h
    split at h
    · cases h
    split at h
    · cases h
    split at h
    · rename_i h1; exact absurd h h1
    · rename_i h1
      have h2 := deep_may d q (by simpa using h1)
      have h3 := deep_mayM _ _ r q h
      rw [deepL]
      left; omega
end
theorem deepAt_any (m : Nat) : ∀ (d : Val), SizeOf.sizeOf d ≤ m → deepV d ≤ 1000000 → ∀ (w : World) (sl so : Sl), RV w (Lt w.heap.size) d sl so →
    Calls Tryz.prog 60 #[aggV d sl so] w fun e w' => e = .returned (.int .i64 (deepV d : Int)) ∧ Ext w w' := by
  induction m with
  | zero => intro d hd; have := Val.sz_pos d; omega
  | succ m ih =>
  intro d hd hdm w sl so h
  have HI := Lib.hid ih
  clear ih
  obtain ⟨k, b, i, t, l, ok, ov⟩ := d
  show Calls _ _ #[.agg #[.int .i64 k, .bool b, .int .i64 i, .string t, .slice sl.a l.length sl.c, .slice so.a ok.length so.c]] _ _
  cases h with
  | mk bl fl bo fo cl co hl ho hov el rl ek eo ro bk bi bt nl no =>
  have hsl : ∀ (j : Nat) (d : Val), l[j]? = some d → SizeOf.sizeOf d ≤ m := fun j d hj => Nat.le_of_lt_succ (Nat.lt_of_lt_of_le (Val.sz_l hj) hd)
  have hso : ∀ (j : Nat) (d : Val), ov[j]? = some d → SizeOf.sizeOf d ≤ m := fun j d hj => Nat.le_of_lt_succ (Nat.lt_of_lt_of_le (Val.sz_o hj) hd)
  have HSL := Lib.hid hsl
  have HSO := Lib.hid hso
  have HEL := Lib.hid el
  have HRL := Lib.hid rl
  have HEO := Lib.hid eo
  have HRO := Lib.hid ro
  have HOV := Lib.hid hov
  have HSLA := Lib.hid hl
  have HSOA := Lib.hid ho
  obtain ⟨r, hr⟩ : ∃ r, deepV (.mk k b i t l ok ov) = r := ⟨_, rfl⟩
  rw [hr] at hdm ⊢
  unfold deepV at hr
  clear hsl hso el rl eo ro hov hd
  go_enter Tryz.func60, Tryz.ntmps60
  by_cases h5 : k = 5
  · subst h5
    rw [if_pos rfl] at hr
    go_wp2_with fail
    generalize hW0 : World.alloc w _ = w1
    have hx1 : Ext w w1 := by rw [← hW0]; exact (Ext.refl w).alloc _ _
    have HX := Lib.hid hx1
    clear hW0 hx1
    go_loopw [3, 15] (fun dp qq wr => ∃ j : Nat, dp = .int .i64 (deepL (l.take j) : Int) ∧ qq = .int .i64 j ∧ j ≤ l.length ∧ Ext w1 wr) (fun _ qq _ => l.length - (intOf qq).toNat)
    case atStart => exact ⟨0, rfl, rfl, Nat.zero_le _, Ext.refl _⟩
    case round =>
      obtain ⟨j, rfl, rfl, hj, hn⟩ := hrel
      by_cases hlt : j < l.length
      · have g1 : (j : Int) < (l.length : Int) := by omega
        have g1' : decide ((j : Int) < (l.length : Int)) = true := decide_eq_true g1
        obtain ⟨d, hd⟩ : ∃ d, l[j]? = some d := ⟨_, List.getElem?_eq_getElem hlt⟩
        have hnw : Ext w wr := HX.out.trans hn
        have hag : Agree (Lt w.heap.size) w wr := hnw.agree fun _ h => h
        obtain ⟨hsa, hlc, hcm⟩ := HSLA.out.eq (by omega)
        have hbl := HSLA.out.fits (show 0 < l.length by omega)
        obtain ⟨sa, sc⟩ := sl
        dsimp only at hsa hlc hcm
        subst hsa
        obtain ⟨v0, v1, v2, v3, v4, v5⟩ := (HEL.out j d hd).agree hag hbl
        have lb : bl < wr.heap.size := Nat.lt_of_lt_of_le hbl hnw.size
        have hdd := deepL_le hd
        have hic : ∀ W, Ext wr W → Calls Tryz.prog 60 #[aggV d (cl j).1 (cl j).2] W fun e w' => e = .returned (.int .i64 (deepV d : Int)) ∧ Ext W w' := fun W hW =>
          HI.out d (HSL.out j d hd) (by omega) W _ _ (((HRL.out j d hd).agree (hag.trans (hW.agree fun _ h => Nat.lt_of_lt_of_le h hnw.size))).mono fun i hi => Nat.lt_of_lt_of_le hi (Nat.le_trans hnw.size hW.size))
        have htk := deepL_take hd
        have HIC := Lib.hid hic
        have HTK := Lib.hid htk
        have HN := Lib.hid hn
        clear hd hnw hag hic hn htk hdd
        go_wp2_with fail
        have hx3 := (Ext.refl wr).alloc #[.int .i64 d.kind, .bool d.b, .int .i64 d.i, .string d.t, .slice (cl j).1.a d.l.length (cl j).1.c, .slice (cl j).2.a d.ok.length (cl j).2.c] 34
        refine (HIC.out _ hx3).mono ?_
        rintro e w3 ⟨rfl, hn3⟩
        have HN3 := Lib.hid ((HN.out.trans hx3).trans hn3)
        clear hx3 hn3 v0 v1 v2 v3 v4 v5 HIC HN
        go_wp2_with fail
        go_roundw
        case rel => exact ⟨j + 1, by rw [HTK.out]; go_num, by go_num, hlt, HN3.out⟩
        case measure => simp [intOf]; omega
      · obtain rfl : j = l.length := by omega
        have g1 : decide ((l.length : Int) < (l.length : Int)) = false := decide_eq_false (by omega)
        rw [List.take_length]
        have g2 : IntKind.i64.wrap (1 + (deepL l : Int)) = 1 + (deepL l : Int) := by rw [IntKind.wrap_i64]; omega
        have hz : (r : Int) = 1 + (deepL l : Int) := by omega
        have HZ := Lib.hid hz
        have HN := Lib.hid (HX.out.trans hn)
        clear hn hz
        go_wp2_with fail
        go_ret
        exact ⟨by rw [HZ.out]; rfl, HN.out⟩
  rw [if_neg h5] at hr
  have g5 : (k == 5) = false := by simpa using h5
  by_cases h6 : k = 6
  · subst h6
    rw [if_pos rfl] at hr
    go_wp2_with fail
    generalize hW0 : World.alloc w _ = w1
    have hx1 : Ext w w1 := by rw [← hW0]; exact (Ext.refl w).alloc _ _
    have HX := Lib.hid hx1
    clear hW0 hx1
    go_loopw [3, 29] (fun dp qq wr => ∃ j : Nat, dp = .int .i64 (deepL (ov.take j) : Int) ∧ qq = .int .i64 j ∧ j ≤ ok.length ∧ Ext w1 wr) (fun _ qq _ => ok.length - (intOf qq).toNat)
    case atStart => exact ⟨0, rfl, rfl, Nat.zero_le _, Ext.refl _⟩
    case round =>
      obtain ⟨j, rfl, rfl, hj, hn⟩ := hrel
      by_cases hlt : j < ok.length
      · have g1 : (j : Int) < (ok.length : Int) := by omega
        have g1' : decide ((j : Int) < (ok.length : Int)) = true := decide_eq_true g1
        obtain ⟨kk, hk⟩ : ∃ kk, ok[j]? = some kk := ⟨_, List.getElem?_eq_getElem hlt⟩
        obtain ⟨d, hd⟩ : ∃ d, ov[j]? = some d := ⟨_, List.getElem?_eq_getElem (by rw [HOV.out]; exact hlt)⟩
        have hnw : Ext w wr := HX.out.trans hn
        have hag : Agree (Lt w.heap.size) w wr := hnw.agree fun _ h => h
        obtain ⟨hsa, hlc, hcm⟩ := HSOA.out.eq (by omega)
        have hbl := HSOA.out.fits (show 0 < ok.length by omega)
        obtain ⟨sa, sc⟩ := so
        dsimp only at hsa hlc hcm
        subst hsa
        obtain ⟨v0, v1, v2, v3, v4, v5⟩ := (HEO.out j d hd).agree hag hbl
        have lb : bo < wr.heap.size := Nat.lt_of_lt_of_le hbl hnw.size
        have kc : wr.cell? ⟨bo, fo + j * 7, none⟩ = some (.string kk) := (hag.cell hbl).trans (ek j kk hk).1
        have hdd := deepL_le hd
        have hic : ∀ W, Ext wr W → Calls Tryz.prog 60 #[aggV d (co j).1 (co j).2] W fun e w' => e = .returned (.int .i64 (deepV d : Int)) ∧ Ext W w' := fun W hW =>
          HI.out d (HSO.out j d hd) (by omega) W _ _ (((HRO.out j d hd).agree (hag.trans (hW.agree fun _ h => Nat.lt_of_lt_of_le h hnw.size))).mono fun i hi => Nat.lt_of_lt_of_le hi (Nat.le_trans hnw.size hW.size))
        have htk := deepL_take hd
        have HIC := Lib.hid hic
        have HTK := Lib.hid htk
        have HN := Lib.hid hn
        clear hd hnw hag hic hn htk hdd hk
        go_wp2_with fail
        have hx3 := (Ext.refl wr).alloc #[.string kk, .int .i64 d.kind, .bool d.b, .int .i64 d.i, .string d.t, .slice (co j).1.a d.l.length (co j).1.c, .slice (co j).2.a d.ok.length (co j).2.c] 115
        refine (HIC.out _ hx3).mono ?_
        rintro e w3 ⟨rfl, hn3⟩
        have HN3 := Lib.hid ((HN.out.trans hx3).trans hn3)
        clear hx3 hn3 v0 v1 v2 v3 v4 v5 kc HIC HN
        go_wp2_with fail
        go_roundw
        case rel => exact ⟨j + 1, by rw [HTK.out]; go_num, by go_num, hlt, HN3.out⟩
        case measure => simp [intOf]; omega
      · obtain rfl : j = ok.length := by omega
        have g1 : decide ((ok.length : Int) < (ok.length : Int)) = false := decide_eq_false (by omega)
        rw [← HOV.out, List.take_length]
        have g2 : IntKind.i64.wrap (1 + (deepL ov : Int)) = 1 + (deepL ov : Int) := by rw [IntKind.wrap_i64]; omega
        have hz : (r : Int) = 1 + (deepL ov : Int) := by omega
        have HZ := Lib.hid hz
        have HN := Lib.hid (HX.out.trans hn)
        clear hn hz
        go_wp2_with fail
        go_ret
        exact ⟨by rw [HZ.out]; rfl, HN.out⟩
  · rw [if_neg h6] at hr
    subst hr
    have g6 : (k == 6) = false := by simpa using h6
    go_wp2_with fail
    go_ret
    exact ⟨rfl, (Ext.refl w).alloc _ _⟩
theorem own6_any {w : World} {B : Nat} {a b : Value} {m : Nat} (hB : Blk w B 144 (wrC a b m)) (hm : m ≤ 10000000) :
    Calls Tryz.prog 149 #[.pointer (some ⟨B, 0, none⟩)] w fun e w' => (∃ r, e = .returned r) ∧ Blk w' B 144 (wrC a b (m + 4)) ∧ Sb (fun c => c = B) w w' := by
  have hj := join_one (w := w) ⟨#[110, 117, 108, 108]⟩ hB hm (by decide)
  have HJ := Lib.hid hj
  clear hj hB
  go_enter Tryz.func149, Tryz.ntmps149
  go_wp2_with fail
  refine HJ.out.mono ?_
  rintro e w1 ⟨⟨r, rfl⟩, hb1, hs1⟩
  have HB1 := Lib.hid hb1
  have HS1 := Lib.hid hs1
  clear hb1 hs1
  go_wp2_with fail
  go_end0
  exact ⟨⟨_, rfl⟩, HB1.out, HS1.out⟩
def lenB (x : Bool) : Nat := (ByteArray.mk (Lib.formatBool x).toArray).size
theorem lenB_eq (x : Bool) : lenB x = if x then 4 else 5 := by cases x <;> decide
theorem own1_any {w : World} {V B : Nat} {a b : Value} {x : Bool} {m : Nat} {c0 c2 c3 c4 c5 : Value} (hV : Blk w V 34 #[c0, .bool x, c2, c3, c4, c5]) (hB : Blk w B 144 (wrC a b m)) (hm : m ≤ 10000000) :
    Calls Tryz.prog 138 #[.pointer (some ⟨B, 0, none⟩), .pointer (some ⟨V, 0, none⟩)] w fun e w' => (∃ r, e = .returned r) ∧ Blk w' B 144 (wrC a b (m + lenB x)) ∧ Sb (fun c => c = B) w w' := by
  have hf := fun W => Any.strconv_FormatBool Tryz.layFormatBool x W
  have c1 : w.cell? ⟨V, 1, none⟩ = some (.bool x) := hV.cell 1
  have HF := Lib.hid hf
  have HB := Lib.hid hB
  have HM := Lib.hid hm
  clear hf hV hB hm
  go_enter Tryz.func138, Tryz.ntmps138
  go_wp2_with fail
  refine (HF.out _).mono ?_
  rintro e w1 ⟨rfl, rfl⟩
  have hj := join_one (w := w1) ⟨(Lib.formatBool x).toArray⟩ HB.out HM.out (by cases x <;> decide)
  have HJ := Lib.hid hj
  clear hj c1
  go_wp2_with fail
  refine HJ.out.mono ?_
  rintro e w2 ⟨⟨r, rfl⟩, hb1, hs1⟩
  have HB1 := Lib.hid hb1
  have HS1 := Lib.hid hs1
  clear hb1 hs1
  go_wp2_with fail
  go_end0
  refine ⟨⟨_, rfl⟩, ?_, HS1.out⟩
  exact HB1.out
end Go.Proofs.YtechahocffcbpaaGreatDoor
namespace Go.Proofs.YtechahocffcbpaaGreatDoor
open Go.RowKit Go.Maps Go.Sort Go.Shelf
set_option linter.unusedVariables false
def Tryz.layDecode_ren : Go.Shelf.Ren := ⟨fun | 197 => 213 | 260 => 217 | n => n, fun | 9 => 9 | 21 => 21 | 3 => 3 | 4 => 4 | 5 => 5 | 105 => 255 | 119 => 219 | 0 => 0 | 46 => 78 | 139 => 222 | 138 => 221 | n => n, fun | 3 => 0 | 4 => 1 | n => n⟩
theorem Tryz.layDecode : Go.Proofs.Lays.n197 Tryz.prog Tryz.layDecode_ren := {
  mixed := by kernel_rfl
  f197 := Tryz.func213.trans (congrArg some (by kernel_rfl))
  f260 := Tryz.func217.trans (congrArg some (by kernel_rfl))
  t0 := Tryz.underlying0
  a0 := Tryz.isAgg0
  z0 := Tryz.sizeOf0
  v0 := Tryz.zeroValue0
  t3 := Tryz.underlying3
  a3 := Tryz.isAgg3
  z3 := Tryz.sizeOf3
  v3 := Tryz.zeroValue3
  t4 := Tryz.underlying4
  a4 := Tryz.isAgg4
  z4 := Tryz.sizeOf4
  v4 := Tryz.zeroValue4
  t5 := Tryz.underlying5
  a5 := Tryz.isAgg5
  z5 := Tryz.sizeOf5
  v5 := Tryz.zeroValue5
  t9 := Tryz.underlying9
  a9 := Tryz.isAgg9
  z9 := Tryz.sizeOf9
  v9 := Tryz.zeroValue9
  t21 := Tryz.underlying21
  a21 := Tryz.isAgg21
  z21 := Tryz.sizeOf21
  v21 := Tryz.zeroValue21
  t46 := Tryz.underlying78
  a46 := Tryz.isAgg78
  z46 := Tryz.sizeOf78
  v46 := Tryz.zeroValue78
  t105 := Tryz.underlying255
  a105 := Tryz.isAgg255
  z105 := Tryz.sizeOf255
  v105 := Tryz.zeroValue255
  t119 := Tryz.underlying219
  a119 := Tryz.isAgg219
  z119 := Tryz.sizeOf219
  t138 := Tryz.underlying221
  a138 := Tryz.isAgg221
  z138 := Tryz.sizeOf221
  v138 := Tryz.zeroValue221
  t139 := Tryz.underlying222
  a139 := Tryz.isAgg222
  z139 := Tryz.sizeOf222
  v139 := Tryz.zeroValue222
  g3 := by kernel_rfl
  g4 := by kernel_rfl }
def Tryz.layBuilderString_ren : Go.Shelf.Ren := ⟨fun | 169 => 203 | n => n, fun | 70 => 139 | 9 => 9 | 0 => 0 | 72 => 142 | 37 => 140 | 127 => 258 | 3 => 3 | 5 => 5 | n => n, fun | n => n⟩
theorem Tryz.layBuilderString : Go.Proofs.Lays.n169 Tryz.prog Tryz.layBuilderString_ren := {
  mixed := by kernel_rfl
  f169 := Tryz.func203.trans (congrArg some (by kernel_rfl))
  t0 := Tryz.underlying0
  a0 := Tryz.isAgg0
  z0 := Tryz.sizeOf0
  v0 := Tryz.zeroValue0
  t3 := Tryz.underlying3
  a3 := Tryz.isAgg3
  z3 := Tryz.sizeOf3
  v3 := Tryz.zeroValue3
  t9 := Tryz.underlying9
  a9 := Tryz.isAgg9
  z9 := Tryz.sizeOf9
  v9 := Tryz.zeroValue9
  t37 := Tryz.underlying140
  a37 := Tryz.isAgg140
  z37 := Tryz.sizeOf140
  v37 := Tryz.zeroValue140
  t70 := Tryz.underlying139
  a70 := Tryz.isAgg139
  z70 := Tryz.sizeOf139
  v70 := Tryz.zeroValue139
  t72 := Tryz.underlying142
  a72 := Tryz.isAgg142
  z72 := Tryz.sizeOf142
  v72 := Tryz.zeroValue142
  t127 := Tryz.underlying258
  a127 := Tryz.isAgg258
  z127 := Tryz.sizeOf258
  v127 := Tryz.zeroValue258 }
def Tryz.layWriteString_ren : Go.Shelf.Ren := ⟨fun | 166 => 180 | 167 => 198 | 168 => 201 | 240 => 193 | 276 => 207 | 242 => 214 | 278 => 218 | n => n, fun | 37 => 140 | 70 => 139 | 72 => 142 | 75 => 224 | 80 => 165 | 164 => 249 | n => n, fun | n => n⟩
theorem Tryz.layWriteString : Go.Proofs.Lays.n166 Tryz.prog Tryz.layWriteString_ren := {
  mixed := by kernel_rfl
  f166 := Tryz.func180.trans (congrArg some (by kernel_rfl))
  f240 := Tryz.func193.trans (congrArg some (by kernel_rfl))
  f276 := Tryz.func207.trans (congrArg some (by kernel_rfl))
  t0 := Tryz.underlying0
  a0 := Tryz.isAgg0
  z0 := Tryz.sizeOf0
  v0 := Tryz.zeroValue0
  t3 := Tryz.underlying3
  a3 := Tryz.isAgg3
  z3 := Tryz.sizeOf3
  v3 := Tryz.zeroValue3
  t4 := Tryz.underlying4
  a4 := Tryz.isAgg4
  z4 := Tryz.sizeOf4
  v4 := Tryz.zeroValue4
  t9 := Tryz.underlying9
  a9 := Tryz.isAgg9
  z9 := Tryz.sizeOf9
  v9 := Tryz.zeroValue9
  t20 := Tryz.underlying20
  a20 := Tryz.isAgg20
  z20 := Tryz.sizeOf20
  v20 := Tryz.zeroValue20
  t37 := Tryz.underlying140
  a37 := Tryz.isAgg140
  z37 := Tryz.sizeOf140
  v37 := Tryz.zeroValue140
  t70 := Tryz.underlying139
  a70 := Tryz.isAgg139
  z70 := Tryz.sizeOf139
  v70 := Tryz.zeroValue139
  t72 := Tryz.underlying142
  a72 := Tryz.isAgg142
  z72 := Tryz.sizeOf142
  v72 := Tryz.zeroValue142
  t75 := Tryz.underlying224
  a75 := Tryz.isAgg224
  z75 := Tryz.sizeOf224
  v75 := Tryz.zeroValue224
  t164 := Tryz.underlying249
  a164 := Tryz.isAgg249
  z164 := Tryz.sizeOf249
  v164 := Tryz.zeroValue249 }
def Tryz.layWriteByte_ren : Go.Shelf.Ren := ⟨fun | 166 => 180 | 167 => 198 | 168 => 201 | 240 => 193 | 276 => 207 | 242 => 214 | 278 => 218 | n => n, fun | 37 => 140 | 70 => 139 | 72 => 142 | 75 => 224 | 80 => 165 | 164 => 249 | n => n, fun | n => n⟩
theorem Tryz.layWriteByte : Go.Proofs.Lays.n167 Tryz.prog Tryz.layWriteByte_ren := {
  mixed := by kernel_rfl
  f167 := Tryz.func198.trans (congrArg some (by kernel_rfl))
  f240 := Tryz.func193.trans (congrArg some (by kernel_rfl))
  f276 := Tryz.func207.trans (congrArg some (by kernel_rfl))
  t0 := Tryz.underlying0
  a0 := Tryz.isAgg0
  z0 := Tryz.sizeOf0
  v0 := Tryz.zeroValue0
  t4 := Tryz.underlying4
  a4 := Tryz.isAgg4
  z4 := Tryz.sizeOf4
  v4 := Tryz.zeroValue4
  t5 := Tryz.underlying5
  a5 := Tryz.isAgg5
  z5 := Tryz.sizeOf5
  v5 := Tryz.zeroValue5
  t9 := Tryz.underlying9
  a9 := Tryz.isAgg9
  z9 := Tryz.sizeOf9
  v9 := Tryz.zeroValue9
  t20 := Tryz.underlying20
  a20 := Tryz.isAgg20
  z20 := Tryz.sizeOf20
  v20 := Tryz.zeroValue20
  t37 := Tryz.underlying140
  a37 := Tryz.isAgg140
  z37 := Tryz.sizeOf140
  v37 := Tryz.zeroValue140
  t70 := Tryz.underlying139
  a70 := Tryz.isAgg139
  z70 := Tryz.sizeOf139
  v70 := Tryz.zeroValue139
  t72 := Tryz.underlying142
  a72 := Tryz.isAgg142
  z72 := Tryz.sizeOf142
  v72 := Tryz.zeroValue142
  t75 := Tryz.underlying224
  a75 := Tryz.isAgg224
  z75 := Tryz.sizeOf224
  v75 := Tryz.zeroValue224
  t164 := Tryz.underlying249
  a164 := Tryz.isAgg249
  z164 := Tryz.sizeOf249
  v164 := Tryz.zeroValue249 }
def Tryz.layWriteRune_ren : Go.Shelf.Ren := ⟨fun | 166 => 180 | 167 => 198 | 168 => 201 | 240 => 193 | 276 => 207 | 242 => 214 | 278 => 218 | n => n, fun | 37 => 140 | 70 => 139 | 72 => 142 | 75 => 224 | 80 => 165 | 164 => 249 | 46 => 78 | 51 => 185 | n => n, fun | n => n⟩
theorem Tryz.layWriteRune : Go.Proofs.Lays.n168 Tryz.prog Tryz.layWriteRune_ren := {
  mixed := by kernel_rfl
  f168 := Tryz.func201.trans (congrArg some (by kernel_rfl))
  f240 := Tryz.func193.trans (congrArg some (by kernel_rfl))
  f242 := Tryz.func214.trans (congrArg some (by kernel_rfl))
  f276 := Tryz.func207.trans (congrArg some (by kernel_rfl))
  f278 := Tryz.func218.trans (congrArg some (by kernel_rfl))
  t0 := Tryz.underlying0
  a0 := Tryz.isAgg0
  z0 := Tryz.sizeOf0
  v0 := Tryz.zeroValue0
  t3 := Tryz.underlying3
  a3 := Tryz.isAgg3
  z3 := Tryz.sizeOf3
  v3 := Tryz.zeroValue3
  t4 := Tryz.underlying4
  a4 := Tryz.isAgg4
  z4 := Tryz.sizeOf4
  v4 := Tryz.zeroValue4
  t5 := Tryz.underlying5
  a5 := Tryz.isAgg5
  z5 := Tryz.sizeOf5
  v5 := Tryz.zeroValue5
  t9 := Tryz.underlying9
  a9 := Tryz.isAgg9
  z9 := Tryz.sizeOf9
  v9 := Tryz.zeroValue9
  t20 := Tryz.underlying20
  a20 := Tryz.isAgg20
  z20 := Tryz.sizeOf20
  v20 := Tryz.zeroValue20
  t21 := Tryz.underlying21
  a21 := Tryz.isAgg21
  z21 := Tryz.sizeOf21
  v21 := Tryz.zeroValue21
  t37 := Tryz.underlying140
  a37 := Tryz.isAgg140
  z37 := Tryz.sizeOf140
  v37 := Tryz.zeroValue140
  t46 := Tryz.underlying78
  a46 := Tryz.isAgg78
  z46 := Tryz.sizeOf78
  v46 := Tryz.zeroValue78
  t51 := Tryz.underlying185
  a51 := Tryz.isAgg185
  z51 := Tryz.sizeOf185
  v51 := Tryz.zeroValue185
  t70 := Tryz.underlying139
  a70 := Tryz.isAgg139
  z70 := Tryz.sizeOf139
  v70 := Tryz.zeroValue139
  t72 := Tryz.underlying142
  a72 := Tryz.isAgg142
  z72 := Tryz.sizeOf142
  v72 := Tryz.zeroValue142
  t75 := Tryz.underlying224
  a75 := Tryz.isAgg224
  z75 := Tryz.sizeOf224
  v75 := Tryz.zeroValue224
  t164 := Tryz.underlying249
  a164 := Tryz.isAgg249
  z164 := Tryz.sizeOf249
  v164 := Tryz.zeroValue249 }
end Go.Proofs.YtechahocffcbpaaGreatDoor
namespace Go.Proofs.YtechahocffcbpaaGreatDoor
open Go.RowKit Go.Maps Go.Shelf
set_option linter.unusedVariables false
set_option linter.unusedSimpArgs false
theorem nw_growO (w : World) (os : Array Obj) : Nw w (Go.Sort.grow w os) :=
  ⟨rfl, rfl, rfl, by simp [Go.Sort.grow], fun i hi _ => by simp [Go.Sort.grow, Array.getElem?_append_left hi]⟩
theorem fmt_any {w : World} (n : Int) (h0 : -9223372036854775808 ≤ n) (h1 : n ≤ 9223372036854775807) (ht : Lib.TabIs Tryz.prog w "internal/strconv.uint64pow10" .u64 Lib.pow10Tab) : FmtOK n w :=
  (Any.strconv_FormatInt_10 Tryz.layFormatInt n h0 h1 w ht).mono fun e w' h => by
    obtain ⟨he, k, os, rfl⟩ := h
    exact ⟨_, he, by have := Lib.itoa_length_le n h0 h1; simpa [ByteArray.size] using this, (Nw.of ((Ext.refl w).drewN k)).trans (nw_growO _ os)⟩
theorem val_any {w : World} (s : ByteArray) (hs : s.size ≤ maxLen) (hT : Lib.Utf8Tabs 0 1 w) : Calls Tryz.prog 136 #[.string s] w fun e w' => e = .returned (.bool (Lib.validD s.data.toList)) ∧ Nw w w' :=
  (Any.utf8_ValidString Tryz.layValid s w (Nat.le_trans hs (by decide)) hT).mono fun e w' h => ⟨h.1, Sb.new h.2⟩
theorem tab_g6 {w W : World} (h : G5 w W) (ht : Lib.TabIs Tryz.prog w "internal/strconv.uint64pow10" .u64 Lib.pow10Tab) : Lib.TabIs Tryz.prog W "internal/strconv.uint64pow10" .u64 Lib.pow10Tab := by
  have hg : Tryz.prog.globalNamed "internal/strconv.uint64pow10" = some 3 := by kernel_rfl
  unfold Lib.TabIs World.var? at *
  rw [hg] at ht ⊢
  simp only [Option.bind_some] at ht ⊢
  rw [h 3 (by decide)]
  exact ht
theorem u8_g6 {w W : World} (h : G5 w W) (ht : Lib.Utf8Tabs 0 1 w) : Lib.Utf8Tabs 0 1 W := by
  have hc : ∀ b o, b < 6 → W.cell? ⟨b, o, none⟩ = w.cell? ⟨b, o, none⟩ := fun b o hb => World.cell?_of_block (w := w) (a := ⟨b, o, none⟩) (h b hb)
  exact ⟨fun c h => (hc 0 _ (by decide)).trans (ht.1 c h), fun i h => ⟨(hc 1 _ (by decide)).trans (ht.2 i h).1, (hc 1 _ (by decide)).trans (ht.2 i h).2⟩⟩
theorem first_eqO : Go.Pinned.utf8First = Lib.firstData := by kernel_rfl
theorem accept_eqO : (Rows.laid_unicode_utf8_acceptRanges : DataW Unit) = Lib.acceptData := by kernel_rfl
theorem pow_eqO : (Rows.laid_internal_strconv_uint64pow10 : DataW Unit) = Lib.tabData .u64 Lib.pow10Tab := by kernel_rfl
theorem n0 : Tryz.prog.globalNamed "unicode/utf8.first" = some 0 := by kernel_rfl
theorem n1 : Tryz.prog.globalNamed "unicode/utf8.acceptRanges" = some 1 := by kernel_rfl
theorem n3 : Tryz.prog.globalNamed "internal/strconv.uint64pow10" = some 3 := by kernel_rfl
theorem n5 : Tryz.prog.globalNamed "math/bits.deBruijn64tab" = some 5 := by kernel_rfl
theorem ty0 : (Tryz.prog.globals[0]?).map (·.type) = some 219 := by kernel_rfl
theorem ty1 : (Tryz.prog.globals[1]?).map (·.type) = some 222 := by kernel_rfl
theorem ty3 : (Tryz.prog.globals[3]?).map (·.type) = some 252 := by kernel_rfl
theorem c5 : Tryz.prog.cellsOf 5 = 1 := by kernel_rfl
theorem c187 : Tryz.prog.cellsOf 187 = 1 := by kernel_rfl
theorem c219 : Tryz.prog.cellsOf 219 = 256 := by kernel_rfl
theorem c221 : Tryz.prog.cellsOf 221 = 2 := by kernel_rfl
theorem c252 : Tryz.prog.cellsOf 252 = 20 := by kernel_rfl
abbrev laid5 : List (String × DataW Unit) := [("math/bits.deBruijn32tab", Rows.laid_math_bits_deBruijn32tab), ("math/bits.deBruijn64tab", Rows.laid_math_bits_deBruijn64tab), ("internal/strconv.uint64pow10", Rows.laid_internal_strconv_uint64pow10), ("unicode/utf8.acceptRanges", Rows.laid_unicode_utf8_acceptRanges), ("unicode/utf8.first", Rows.laid_unicode_utf8_first)]
theorem reads_u8 {w : World} (h3 : Lib.VarReads Tryz.prog w "unicode/utf8.first" Lib.firstData) (h4 : Lib.VarReads Tryz.prog w "unicode/utf8.acceptRanges" Lib.acceptData) : Lib.Utf8Tabs 0 1 w := by
  refine ⟨fun c hc => ?_, fun i hi => ?_⟩
  · obtain ⟨g, t, cs, fuel, p, hg, hty, hvar, hd⟩ := h3
    obtain rfl := Option.some.inj (n0.symm.trans hg)
    obtain rfl := Option.some.inj (ty0.symm.trans hty)
    have hcs := Lib.cells_of_tab Tryz.underlying219 Tryz.underlying5 c5 c219 hd
    rw [World.var?_cell hg hvar c, ← Array.getElem?_toList, hcs]
    simp [Lib.firstTab, hc]
  · obtain ⟨g, t, cs, fuel, p, hg, hty, hvar, hd⟩ := h4
    obtain rfl := Option.some.inj (n1.symm.trans hg)
    obtain rfl := Option.some.inj (ty1.symm.trans hty)
    obtain ⟨fuel', d, q, hdi, he⟩ := Lib.array_elem Tryz.underlying222 hd i hi
    simp only [List.getElem?_map, List.getElem?_range hi, Option.map_some, Option.some.injEq] at hdi
    subst hdi
    rw [c221] at he
    have hcs := Lib.ints_of_struct Tryz.underlying221 (fun j f hj => by
      match j, hj with
      | 0, hj => simp at hj; subst hj; exact ⟨Tryz.underlying5, rfl, c5⟩
      | 1, hj => simp at hj; subst hj; exact ⟨Tryz.underlying5, rfl, c5⟩
      | j + 2, hj => simp at hj) (by rw [c221]; rfl) he
    have e0 := congrArg (·[0]?) hcs
    have e1 := congrArg (·[1]?) hcs
    simp only [List.getElem?_take, List.getElem?_drop] at e0 e1
    constructor
    · rw [World.var?_cell hg hvar (2 * i), ← Array.getElem?_toList]
      simpa [Nat.mul_comm] using e0
    · rw [World.var?_cell hg hvar (2 * i + 1), ← Array.getElem?_toList]
      simpa [Nat.mul_comm] using e1
theorem reads_pow {w : World} (h : Lib.VarReads Tryz.prog w "internal/strconv.uint64pow10" (Lib.tabData .u64 Lib.pow10Tab)) : Lib.TabIs Tryz.prog w "internal/strconv.uint64pow10" .u64 Lib.pow10Tab := by
  obtain ⟨g, t, cs, fuel, p, hg, hty, hvar, hd⟩ := h
  obtain rfl := Option.some.inj (n3.symm.trans hg)
  obtain rfl := Option.some.inj (ty3.symm.trans hty)
  unfold Lib.TabIs
  rw [hvar, ← Lib.cells_of_tab Tryz.underlying252 Tryz.underlying187 c187 c252 hd]
theorem reads_big {w : World} {d : DataW Unit} (h : Lib.VarReads Tryz.prog w "math/bits.deBruijn64tab" d) : 6 ≤ w.heap.size := by
  obtain ⟨g, t, cs, fuel, p, hg, hty, hvar, hd⟩ := h
  unfold World.var? at hvar
  rw [n5, Option.bind_some] at hvar
  have : (w.heap[5]?).isSome := by
    cases hh : w.heap[5]? with
    | none => rw [hh] at hvar; cases hvar
    | some o => rfl
  have := (Array.getElem?_eq_some_iff.1 (Option.some_get this).symm).1
  omega
theorem lib0_of {w : World} (h : laidMetH Tryz.prog laid5 w) : Lib0 w := by
  have h' : laidMet Tryz.prog laid5 w := h
  have hf := Lib.laidMet.reads h' (n := "unicode/utf8.first") (d := Rows.laid_unicode_utf8_first) (by simp [laid5])
  have ha := Lib.laidMet.reads h' (n := "unicode/utf8.acceptRanges") (d := Rows.laid_unicode_utf8_acceptRanges) (by simp [laid5])
  have hp := Lib.laidMet.reads h' (n := "internal/strconv.uint64pow10") (d := Rows.laid_internal_strconv_uint64pow10) (by simp [laid5])
  have hb := Lib.laidMet.reads h' (n := "math/bits.deBruijn64tab") (d := Rows.laid_math_bits_deBruijn64tab) (by simp [laid5])
  rw [show Rows.laid_unicode_utf8_first = Lib.firstData from first_eqO] at hf
  rw [accept_eqO] at ha
  rw [pow_eqO] at hp
  exact ⟨reads_big hb, fun W hW n h0 h1 => fmt_any n h0 h1 (tab_g6 hW (reads_pow hp)), fun W hW s hs => val_any s hs (u8_g6 hW (reads_u8 hf ha))⟩
theorem bldX (ρ : Go.Shelf.Ren) (h72 : ρ.t 72 = 142) (h5 : ρ.t 5 = 5) : Builder.Extra Tryz.prog ρ where
  sizeBuilder := by rw [h72]; kernel_rfl
  liesBuilder := by rw [h72]; kernel_rfl
  t5 := by rw [h5]; exact Tryz.underlying5
  a5 := by rw [h5]; exact Tryz.isAgg5
  z5 := by rw [h5]; exact Tryz.sizeOf5
  v5 := by rw [h5]; exact Tryz.zeroValue5
  infoByte := by rw [h5]; kernel_rfl
  cellsByte := by rw [h5]; kernel_rfl
  sizeByte := by rw [h5]; kernel_rfl
  neB5 := by rw [h72, h5]; decide
abbrev Bld (B b : Nat) (bs : List Value) (w : World) : Prop := Lib.IsBuilderF 142 5 B b bs w
theorem wbyte_any {w : World} {B b : Nat} {bs : List Value} (c : Int) (h : Bld B b bs w) (hl : bs.length + 1 ≤ 140737488355328) (hB : B ≤ w.heap.size) :
    Calls Tryz.prog 198 #[.pointer (some ⟨b, 0, none⟩), .int .u8 c] w fun e w' => e = .returned .nilIface ∧ Bld B b (bs ++ [.int .u8 c]) w' ∧ Below B w w' ∧ Lib.OthersKept 5 (some b) w w' :=
  (Any.Builder_WriteByte_k Tryz.layWriteByte (bldX _ rfl rfl) B b bs c w h hl hB).mono fun e w' h => ⟨h.1, .inr h.2.1, h.2.2.1, h.2.2.2⟩
theorem wstr_any {w : World} {B b : Nat} {bs : List Value} (s : ByteArray) (h : Bld B b bs w) (hl : bs.length + s.size ≤ 140737488355328) (hB : B ≤ w.heap.size) :
    Calls Tryz.prog 180 #[.pointer (some ⟨b, 0, none⟩), .string s] w fun e w' => (∃ r, e = .returned r) ∧ Bld B b (bs ++ Lib.strCells s) w' ∧ Below B w w' ∧ Lib.OthersKept 5 (some b) w w' :=
  (Any.Builder_WriteString_k Tryz.layWriteString (bldX _ rfl rfl) B b bs s w h hl hB).mono fun e w' h => ⟨⟨_, h.1⟩, .inr h.2.1, h.2.2.1, h.2.2.2⟩
theorem wrune_any {w : World} {B b : Nat} {bs : List Value} (r : Int) (r0 : -2147483648 ≤ r) (r1 : r ≤ 2147483647) (h : Bld B b bs w) (hl : bs.length + 4 ≤ 140737488355328) (hB : B ≤ w.heap.size) :
    Calls Tryz.prog 201 #[.pointer (some ⟨b, 0, none⟩), .int .i32 r] w fun e w' => e = .returned (.tuple #[.int .i64 (Lib.runeCells r).length, .nilIface]) ∧ Bld B b (bs ++ Lib.runeCells r) w' ∧ Below B w w' ∧ Lib.OthersKept 5 (some b) w w' :=
  (Any.Builder_WriteRune_k Tryz.layWriteRune (bldX _ rfl rfl) B b bs r r0 r1 w h hl hB).mono fun e w' h => ⟨h.1, .inr h.2.1, h.2.2.1, h.2.2.2⟩
def DecOK (w : World) : Prop := ∀ W, G5 w W → ∀ s : ByteArray, Calls Tryz.prog 213 #[.string s] W fun e w' => e = .returned (.tuple #[.int .i32 (Lib.decodeGo s).1, .int .i64 (Lib.decodeGo s).2]) ∧ Nw W w'
theorem dec_of {w : World} (h : laidMetH Tryz.prog laid5 w) : DecOK w := fun W hW s => by
  have h' : laidMet Tryz.prog laid5 w := h
  have hf := Lib.laidMet.reads h' (n := "unicode/utf8.first") (d := Rows.laid_unicode_utf8_first) (by simp [laid5])
  have ha := Lib.laidMet.reads h' (n := "unicode/utf8.acceptRanges") (d := Rows.laid_unicode_utf8_acceptRanges) (by simp [laid5])
  rw [show Rows.laid_unicode_utf8_first = Lib.firstData from first_eqO] at hf
  rw [accept_eqO] at ha
  exact (Any.utf8_DecodeRuneInString Tryz.layDecode s W (u8_g6 hW (reads_u8 hf ha))).mono fun e w' h => ⟨h.1, Sb.new h.2⟩
theorem DecOK.sb {H : Nat → Prop} {w w' : World} (h : DecOK w) (hz : 6 ≤ w.heap.size) (k : Sb H w w') (hH : ∀ b, b < 6 → ¬ H b) : DecOK w' := fun W hW => h W ((k.g5 hz hH).trans hW)
def standsR (r : Int) : Bool := decide (32 ≤ r) && r != 34 && r != 92
theorem stands_any (w : World) (r : Int) : Calls Tryz.prog 200 #[.int .i32 r] w fun e w' => e = .returned (.bool (standsR r)) ∧ w' = w := by
  by_cases h1 : 32 ≤ r
  · by_cases h2 : r = 34
    · subst h2
      go_enter Tryz.func200, Tryz.ntmps200
      go_wp2_with fail
      go_ret
      exact ⟨rfl, rfl⟩
    · have g1 : decide ((32 : Int) ≤ r) = true := decide_eq_true h1
      have g2 : (r != 34) = true := by simpa using h2
      by_cases h3 : r = 92
      · subst h3
        go_enter Tryz.func200, Tryz.ntmps200
        go_wp2_with fail
        go_ret
        exact ⟨rfl, rfl⟩
      · have g3 : (r != 92) = true := by simpa using h3
        have hs : standsR r = true := by simp [standsR, h1, h2, h3]
        rw [hs]
        go_enter Tryz.func200, Tryz.ntmps200
        go_wp2_with fail
        go_ret
        exact ⟨rfl, rfl⟩
  · have g1 : decide ((32 : Int) ≤ r) = false := decide_eq_false h1
    have hs : standsR r = false := by simp [standsR, h1]
    rw [hs]
    go_enter Tryz.func200, Tryz.ntmps200
    go_wp2_with fail
    go_ret
    exact ⟨rfl, rfl⟩
def runesAt (s : ByteArray) : Nat → Nat → List (Nat × Nat)
  | 0, _ => []
  | f + 1, p => if s.size ≤ p then [] else if Utf8.decode s p = (65533, 1) then [] else (p, (Utf8.decode s p).1) :: runesAt s f (p + (Utf8.decode s p).2)
def runesS (s : ByteArray) : List (Nat × Nat) := runesAt s s.size 0
theorem decode_fits {s : ByteArray} {p : Nat} (h : p < s.size) : 1 ≤ (Utf8.decode s p).2 ∧ p + (Utf8.decode s p).2 ≤ s.size ∧ (Utf8.decode s p).1 ≤ 1114111 := by
  refine ⟨Lib.width_pos s p, ?_, Lib.rune_le s p⟩
  have := Lib.decodeN_le_n (s.size - p) (s.get! p).toNat (s.get! (p + 1)).toNat (s.get! (p + 2)).toNat (s.get! (p + 3)).toNat (by omega)
  rw [Lib.decode_at]
  omega
theorem runesAt_len (s : ByteArray) : ∀ (f p : Nat), (runesAt s f p).length ≤ s.size - p
  | 0, p => Nat.zero_le _
  | f + 1, p => by
    unfold runesAt
    split
    · simp
    · split
      · simp
      · have := runesAt_len s f (p + (Utf8.decode s p).2)
        have := decode_fits (s := s) (p := p) (by omega)
        simp only [List.length_cons]; omega
theorem runesAt_rune {s : ByteArray} : ∀ {f p : Nat} {x : Nat × Nat}, x ∈ runesAt s f p → x.2 ≤ 1114111 ∧ x.1 < s.size
  | 0, p, x, h => by cases h
  | f + 1, p, x, h => by
    unfold runesAt at h
    split at h
    · cases h
    · split at h
      · cases h
      · rcases List.mem_cons.1 h with rfl | h
        · exact ⟨Lib.rune_le s p, by show p < _; omega⟩
        · exact runesAt_rune h
theorem runesAt_stop {s : ByteArray} {f p : Nat} (h : s.size ≤ p) : runesAt s f p = [] := by
  cases f with
  | zero => rfl
  | succ f => rw [runesAt, if_pos h]
theorem runesAt_bad {s : ByteArray} {f p : Nat} (h : Utf8.decode s p = (65533, 1)) : runesAt s f p = [] := by
  cases f with
  | zero => rfl
  | succ f => rw [runesAt, if_pos h, ite_self]
theorem runesAt_go {s : ByteArray} {f p : Nat} (hp : p < s.size) (hf : s.size ≤ p + f) (h : Utf8.decode s p ≠ (65533, 1)) : runesAt s f p = (p, (Utf8.decode s p).1) :: runesAt s (f - 1) (p + (Utf8.decode s p).2) := by
  cases f with
  | zero => omega
  | succ f => rw [runesAt, if_neg (by omega), if_neg h]; rfl
def letterR (r : Nat) : Option Nat := if r = 34 then some 34 else if r = 92 then some 92 else if r = 8 then some 98 else if r = 9 then some 116 else if r = 10 then some 110 else if r = 12 then some 102 else if r = 13 then some 114 else none
def hexD (k : Nat) : UInt8 := if k < 10 then (48 + k).toUInt8 else (87 + k).toUInt8
def quoteR (r : Nat) : List UInt8 := if standsR r then Lib.encodeRune r else match letterR r with
  | some c => [92, c.toUInt8]
  | none => [92, 117, 48, 48, hexD (r / 16), hexD (r % 16)]
def quoteL (l : List (Nat × Nat)) : List UInt8 := (l.map fun x => quoteR x.2).flatten
def quoteS (s : ByteArray) : List UInt8 := 34 :: quoteL (runesS s) ++ [34]
theorem quoteL_snoc (l : List (Nat × Nat)) (x : Nat × Nat) : quoteL (l ++ [x]) = quoteL l ++ quoteR x.2 := by simp [quoteL]
theorem quoteR_len (r : Nat) : (quoteR r).length ≤ 6 := by
  unfold quoteR
  split
  · have := Lib.runeCells_le r
    rw [Lib.runeCells_length] at this; omega
  · split <;> simp
theorem quoteL_len : ∀ l : List (Nat × Nat), (quoteL l).length ≤ 6 * l.length
  | [] => by simp [quoteL]
  | x :: r => by
    have := quoteL_len r
    have := quoteR_len x.2
    simp only [quoteL, List.map_cons, List.flatten_cons, List.length_append, List.length_cons] at *; omega
theorem quoteS_len (s : ByteArray) : (quoteS s).length ≤ 6 * s.size + 2 := by
  have h1 := quoteL_len (runesS s)
  have h2 := runesAt_len s s.size 0
  unfold quoteS runesS at *
  simp only [List.length_cons, List.length_append, List.length_nil]; omega
end Go.Proofs.YtechahocffcbpaaGreatDoor
namespace Go.Proofs.YtechahocffcbpaaGreatDoor
open Go.RowKit
set_option linter.unusedVariables false
theorem calls_round {l n : Nat} {P : Program} {f : FuncId} {args : Array Value} {w : World} {R : Ending → World → Prop} (h : Calls P f args w R) : CallsIn (Fence.wide.inRound l) n P f args w R := callsIn_wide.2 h
def TakesP {α : Type} (P : Program) (l : Nat) (encs : α → Array Value) (K : Nat → Prop) (G : List α → α → World → World → Prop) (J Jx : List α → World → Prop) : Prop :=
  ∀ pre x W0 W1, J pre W0 → Nw W0 W1 → G pre x W0 W1 → YieldAt Fence.wide 4 P l (encs x) W1 fun e W' =>
    (e = .returned (.bool true) ∧ J (pre ++ [x]) W' ∧ Agree K W1 W' ∧ W1.heap.size ≤ W'.heap.size) ∨ (e = .returned (.bool false) ∧ Jx (pre ++ [x]) W')
def SeqP {α : Type} (P : Program) (g : Nat) (lb : Array Value) (encs : α → Array Value) (K : Nat → Prop) (G : List α → α → World → World → Prop) (S Sp : List α → Prop) (w0 : World) : Prop :=
  ∀ (l : Nat) (J Jx : List α → World → Prop) (W : World), TakesP P l encs K G J Jx → Agree K w0 W → w0.heap.size ≤ W.heap.size → J [] W →
    Calls P g (#[.func (.yield l) #[] #[]] ++ lb) W fun e W' => (∃ v, e = .returned v) ∧ ((∃ xs W0, S xs ∧ J xs W0 ∧ Nw W0 W') ∨ (∃ pre W0, Sp pre ∧ Jx pre W0 ∧ Nw W0 W'))
def ownPostP {α : Type} (K : Nat → Prop) (I : List α → World → Prop) (Ix : Code → List α → World → Prop) (xs : List α) (W : World) : Exit → Act → World → Prop
  | .normal, _, W' => I xs W' ∧ Agree K W W' ∧ W.heap.size ≤ W'.heap.size
  | .ret, _, W' => Agree K W W' ∧ Ix .ret xs W'
  | .exit id, _, W' => Agree K W W' ∧ Ix (.exit id) xs W'
  | .goto t, _, W' => Agree K W W' ∧ Ix (.goto t) xs W'
  | .panic _, _, _ => False
  | .outgrown, _, _ => False
theorem wpIn_rangeP {α : Type} {n : Nat} {P : Program} {g : Operand} {ps : Array Tmp} {assign body : Code} {Q : Exit → Act → World → Prop} {a : Act} {w : World}
    {gf : Nat} {lb : Array Value} (hg : a.eval g = .func (.func gf) #[] lb) (eg : ∀ args w, (callFunc gf args).run P w = .ok (.enter gf args) w)
    {encs : α → Array Value} {K : Nat → Prop} {G : List α → α → World → World → Prop} {S Sp : List α → Prop} {w0 : World} (hseq : SeqP P gf lb encs K G S Sp w0)
    (hA : Agree K w0 w) (hsz : w0.heap.size ≤ w.heap.size) (hK : ∀ b, K b → b < w.heap.size) (hps : ∀ x, (encs x).size = ps.size)
    (I : List α → World → Prop) (Ix : Code → List α → World → Prop)
    (hI : ∀ {s W W'}, I s W → Sb (fun b => b = w.heap.size + 1) W W' → (∃ r, W.heap[w.heap.size + 1]? = some (.loop r)) → (∃ r, W'.heap[w.heap.size + 1]? = some (.loop r)) → I s W') (hIx : ∀ {c s W W'}, Ix c s W → Sb (fun b => b = w.heap.size + 1) W W' → (∃ r, W.heap[w.heap.size + 1]? = some (.loop r)) → (∃ r, W'.heap[w.heap.size + 1]? = some (.loop r)) → Ix c s W')
    (h0 : ∀ W, Ext w W → w.heap.size + 2 ≤ W.heap.size → I [] W)
    (hround : ∀ (pre : List α) (x : α) (W0 W1 : World), I pre W0 → w.heap.size + 2 ≤ W0.heap.size → Nw W0 W1 → G pre x W0 W1 →
      assign.wpIn (Fence.wide.inRound (w.heap.size + 1)) 4 P (Exit.then (fun a1 W2 => Nw W1 W2 ∧ ∀ W3, Sb (fun b => b = w.heap.size + 1) W2 W3 → (∃ r, W2.heap[w.heap.size + 1]? = some (.loop r)) → (∃ r, W3.heap[w.heap.size + 1]? = some (.loop r)) → W3.heap[w.heap.size]? = some (.deferred (some [])) → body.wpIn (Fence.wide.inRound (w.heap.size + 1)) 4 P (ownPostP (fun b => K b ∨ b = w.heap.size ∨ b = w.heap.size + 1) I Ix (pre ++ [x]) W3) a1 W3) (fun _ _ _ => False))
        { tmps := (ps.zip (encs x)).foldl (fun t (p, v) => t.setIfInBounds p v) a.tmps, defers := [] } W1)
    (hdone : ∀ (D : Nat) (xs : List α) (W : World), D = w.heap.size → S xs → I xs W → W.heap[D]? = some (.deferred (some [])) → Q .normal { a with defers := { target := .collected D, args := #[] } :: a.defers } W)
    (hstop : ∀ (D : Nat) (c : Code) (pre : List α) (W : World), D = w.heap.size → Sp pre → Ix c pre W → W.heap[D]? = some (.deferred (some [])) → c.wpIn Fence.wide n P Q { a with defers := { target := .collected D, args := #[] } :: a.defers } W) :
    (Code.rangeFunc g ps assign body).wpIn Fence.wide n P Q a w := by
  refine wpIn_rangeFunc fun fn hfn => ?_
  rw [show Fence.wide.round = none from rfl]
  let rec_ : LoopState → Option Code → Obj := fun st pe => .loop { state := st, pending := pe, fn, tmps := a.tmps, params := ps, assign, body, defers := w.heap.size }
  let BK : LoopState → Option Code → World → Prop := fun st pe W => W.heap[w.heap.size + 1]? = some (rec_ st pe) ∧ W.heap[w.heap.size]? = some (.deferred (some []))
  have bkL : ∀ {st pe W}, BK st pe W → w.heap.size + 1 < W.heap.size := fun h => (Array.getElem?_eq_some_iff.1 h.1).1
  have bkr : ∀ {st pe W}, BK st pe W → ∃ r, W.heap[w.heap.size + 1]? = some (.loop r) := fun h => ⟨_, h.1⟩
  have bkE : ∀ {st pe W W'}, BK st pe W → Nw W W' → BK st pe W' := fun h he => ⟨(he.block _ (Array.getElem?_eq_some_iff.1 h.1).1 (fun e => e)).trans h.1, (he.block _ (Array.getElem?_eq_some_iff.1 h.2).1 (fun e => e)).trans h.2⟩
  have bkS : ∀ {st pe W W'} {C : Nat → Prop}, BK st pe W → Agree C W W' → C (w.heap.size + 1) → C w.heap.size → BK st pe W' := fun h hk h1 h2 => ⟨(hk _ h1).trans h.1, (hk _ h2).trans h.2⟩
  have bkP : ∀ {st pe W} (st' : LoopState) (pe' : Option Code), BK st pe W → BK st' pe' (W.putObj (w.heap.size + 1) (rec_ st' pe')) ∧ Sb (fun b => b = w.heap.size + 1) W (W.putObj (w.heap.size + 1) (rec_ st' pe')) := fun st' pe' h =>
    ⟨⟨World.putObj_heap_same (Array.getElem?_eq_some_iff.1 h.1).1, (World.putObj_heap_other (by omega)).trans h.2⟩, (St.put h.1 rfl rfl).sb⟩
  have e1 : Ext w (w.alloc (.deferred (some []))) := ext_obj w _ fun W i j h => by simp [World.frozen?, h]
  have e2 : Ext (w.alloc (.deferred (some []))) ((w.alloc (.deferred (some []))).alloc (rec_ .ready none)) := ext_obj _ _ fun W i j h => by simp [World.frozen?, h, rec_]
  have hrun := run_enterLoop_outer (P := P) (w := w) fn a.tmps ps assign body
  have bk1 : BK .ready none ((w.alloc (.deferred (some []))).alloc (rec_ .ready none)) :=
    ⟨by have := World.alloc_heap_new (w.alloc (.deferred (some []))) (rec_ .ready none); rwa [World.size_alloc] at this, (Below.heap_alloc _ _ _ (by simp)).trans (World.alloc_heap_new w _)⟩
  have eW := e1.trans e2
  have hs1 : w.heap.size + 2 ≤ ((w.alloc (.deferred (some []))).alloc (rec_ .ready none)).heap.size := by simp
  change _ = Result.ok _ ((w.alloc (.deferred (some []))).alloc (rec_ .ready none)) at hrun
  generalize (w.alloc (.deferred (some []))).alloc (rec_ .ready none) = W1 at *
  refine ⟨w.heap.size + 1, _, W1, { target := .fn (.func gf) lb, args := #[.func (.yield (w.heap.size + 1)) #[] #[]] }, W1, gf, #[.func (.yield (w.heap.size + 1)) #[] #[]] ++ lb, W1, hrun, ?_, ?_, ?_, fun h => by simp [Fence.wide] at h, ?_⟩
  · simp only [resolve, hg]
    simp [go_sem]
  · intro f' hf'; trivial
  · simp [invoke, go_sem, eg]
  refine callsIn_wide.2 ((hseq (w.heap.size + 1) (fun pre W => I pre W ∧ BK .ready none W) (fun pre W => ∃ c, Ix c pre W ∧ BK .done (some c) W) W1 ?_ (hA.trans (eW.agree hK)) (Nat.le_trans hsz eW.size) ⟨h0 W1 eW hs1, bk1⟩).mono ?_)
  · rintro pre x W0 Wy ⟨hi, hbk⟩ hx hgd
    have hbk1 := bkE hbk hx
    have hl0 := bkL hbk
    refine ⟨fn, _, assign, body, run_yield (args := encs x) hbk1.1 (hps x), roundIn_of_wpIn hfn (wpIn_mono (hround pre x W0 Wy hi (by omega) hx hgd) ?_)⟩
    rintro e a3 W2 hp
    cases e with
    | normal =>
      obtain ⟨hx2, hb⟩ := hp
      have hbk2 := bkE hbk1 hx2
      obtain ⟨hbk3, ht3⟩ := bkP .busy none hbk2
      refine ⟨_, run_beginRound hbk2.1 rfl, wpIn_mono (hb _ ht3 (bkr hbk2) (bkr hbk3) hbk3.2) ?_⟩
      have hl3 := bkL hbk3
      have hl2 := bkL hbk2
      have hl1 := bkL hbk1
      generalize W2.putObj (w.heap.size + 1) (rec_ .busy none) = W3 at *
      rintro e a4 W4 hq
      cases e with
      | normal =>
        obtain ⟨hi4, hst, hlt4⟩ := hq
        have hbk4 := bkS hbk3 hst (.inr (.inr rfl)) (.inr (.inl rfl))
        obtain ⟨hbk5, ht5⟩ := bkP .ready none hbk4
        refine ⟨_, _, run_endRound none hbk4.1, .inl ⟨rfl, ⟨hI hi4 ht5 (bkr hbk4) (bkr hbk5), hbk5⟩, fun b hb => ?_, ?_⟩⟩
        · have hbw := hK b hb
          have h1 := hx2.block b (by omega) (fun e => e)
          have h2 := ht3.block b (by omega) (fun e => by omega)
          have h3 := hst b (.inl hb)
          have h4 := ht5.block b (by have := bkL hbk4; omega) (fun e => by omega)
          exact h4.trans (h3.trans (h2.trans h1))
        · have := hx2.size; have := ht3.size; simp; omega
      | ret =>
        have hbk4 := bkS hbk3 hq.1 (.inr (.inr rfl)) (.inr (.inl rfl))
        obtain ⟨hbk5, ht5⟩ := bkP .done (some .ret) hbk4
        exact ⟨_, _, run_endRound (some .ret) hbk4.1, .inr ⟨rfl, .ret, hIx hq.2 ht5 (bkr hbk4) (bkr hbk5), hbk5⟩⟩
      | exit id =>
        have hbk4 := bkS hbk3 hq.1 (.inr (.inr rfl)) (.inr (.inl rfl))
        obtain ⟨hbk5, ht5⟩ := bkP .done (some (.exit id)) hbk4
        exact ⟨_, _, run_endRound (some (.exit id)) hbk4.1, .inr ⟨rfl, .exit id, hIx hq.2 ht5 (bkr hbk4) (bkr hbk5), hbk5⟩⟩
      | goto t =>
        have hbk4 := bkS hbk3 hq.1 (.inr (.inr rfl)) (.inr (.inl rfl))
        obtain ⟨hbk5, ht5⟩ := bkP .done (some (.goto t)) hbk4
        exact ⟨_, _, run_endRound (some (.goto t)) hbk4.1, .inr ⟨rfl, .goto t, hIx hq.2 ht5 (bkr hbk4) (bkr hbk5), hbk5⟩⟩
      | panic ch => exact hq.elim
      | outgrown => exact hq.elim
    | ret => exact hp.elim
    | exit id => exact hp.elim
    | goto t => exact hp.elim
    | panic ch => exact hp.elim
    | outgrown => exact hp.elim
  · rintro e W2 ⟨⟨v, rfl⟩, (⟨xs, W0, hS, ⟨hi, hbk⟩, hx⟩ | ⟨pre, W0, hSp, ⟨c, hi, hbk⟩, hx⟩)⟩
    · have hbk2 := bkE hbk hx
      have hbk0 := hbk
      obtain ⟨hbk5, ht5⟩ := bkP .exhausted none hbk2
      exact ⟨none, _, run_endLoop hbk2.1 (by simp), hdone _ xs _ rfl hS (hI hi ((hx.any _).trans ht5) (bkr hbk0) (bkr hbk5)) hbk5.2⟩
    · have hbk2 := bkE hbk hx
      have hbk0 := hbk
      obtain ⟨hbk5, ht5⟩ := bkP .exhausted (some c) hbk2
      exact ⟨some c, _, run_endLoop hbk2.1 (by simp), hstop _ c pre _ rfl hSp (hIx hi ((hx.any _).trans ht5) (bkr hbk0) (bkr hbk5)) hbk5.2⟩
end Go.Proofs.YtechahocffcbpaaGreatDoor
namespace Go.Proofs.YtechahocffcbpaaGreatDoor
open Go.RowKit Go.Maps Go.Shelf
set_option linter.unusedVariables false
set_option linter.unusedSimpArgs false
attribute [local go_sem] Oper.semAt_some
theorem runes_any (w : World) (s : ByteArray) : Calls Tryz.prog 199 #[.string s] w fun e w' => e = .returned (.func (.func 212) #[] #[.pointer (some ⟨w.heap.size, 0, none⟩)]) ∧ Ext w w' ∧ Blk w' w.heap.size 9 #[.string s] := by
  go_enter Tryz.func199, Tryz.ntmps199
  go_wp2_with fail
  go_ret
  exact ⟨rfl, (Ext.refl w).alloc _ _, Blk.new w _ _⟩
abbrev encRune (x : Nat × Nat) : Array Value := #[.int .i64 (x.1 : Int), .int .i32 (x.2 : Int)]
def RuneDone (s : ByteArray) (xs : List (Nat × Nat)) : Prop := xs = runesS s
def RuneG (s : ByteArray) (pre : List (Nat × Nat)) (x : Nat × Nat) (W0 W1 : World) : Prop := (runesS s)[pre.length]? = some x
structure RuneS (s : ByteArray) (J : List (Nat × Nat) → World → Prop) (K : Nat → Prop) (W : World) (p f : Nat) (pre : List (Nat × Nat)) (Wj wr : World) : Prop where
  inv : J pre Wj
  nw : Nw Wj wr
  pre_ : runesS s = pre ++ runesAt s f p
  few : s.size ≤ p + f
  ag : Agree K W wr
  sz : W.heap.size ≤ wr.heap.size
theorem RuneS.grow {s : ByteArray} {J : List (Nat × Nat) → World → Prop} {K : Nat → Prop} {W : World} {p f : Nat} {pre : List (Nat × Nat)} {Wj wr w6 : World} (h : RuneS s J K W p f pre Wj wr) (hK : ∀ b, K b → b < W.heap.size) (k : Nw wr w6) : RuneS s J K W p f pre Wj w6 :=
  ⟨h.inv, h.nw.trans k, h.pre_, h.few, h.ag.trans (k.agree fun b hb => Nat.lt_of_lt_of_le (hK b hb) h.sz), Nat.le_trans h.sz k.size⟩
theorem runeS_next {s : ByteArray} {J : List (Nat × Nat) → World → Prop} {K : Nat → Prop} {W : World} {p f r z : Nat} {pre : List (Nat × Nat)} {Wj wr w6 : World} (h : RuneS s J K W p f pre Wj wr) (hp : p < s.size) (hd : Utf8.decode s p = (r, z)) (hz : 1 ≤ z) (hb : Utf8.decode s p ≠ (65533, 1))
    (hj : J (pre ++ [(p, r)]) w6) (ha : Agree K wr w6) (hs : wr.heap.size ≤ w6.heap.size) : RuneS s J K W (p + z) (f - 1) (pre ++ [(p, r)]) w6 w6 := by
  refine ⟨hj, Sb.refl _ _, ?_, ?_, h.ag.trans ha, Nat.le_trans h.sz hs⟩
  · rw [h.pre_, runesAt_go hp h.few hb, hd, List.append_assoc]; rfl
  · have := h.few; omega
theorem runes_seq {w0 : World} {B : Nat} {s : ByteArray} (hB : Blk w0 B 9 #[.string s]) (hD : DecOK w0) (h6 : 6 ≤ w0.heap.size) (hs : s.size ≤ 1000000000000) :
    SeqP Tryz.prog 212 #[.pointer (some ⟨B, 0, none⟩)] encRune (fun b => b = B ∨ b < 6) (RuneG s) (RuneDone s) (fun _ => True) w0 := by
  intro l J Jx W hTk hA hsz hJ
  have hlB := hB.lt
  have hKW : ∀ b, (b = B ∨ b < 6) → b < W.heap.size := fun b hb => by rcases hb with rfl | hb <;> omega
  have hss : ∀ W1, Agree (fun b => b = B ∨ b < 6) W W1 → W.heap.size ≤ W1.heap.size → W1.cell? ⟨B, 0, none⟩ = some (.string s) ∧ B < W1.heap.size ∧ G5 w0 W1 := fun W1 hW hz =>
    ⟨(hW.cell (.inl rfl)).trans ((World.cell?_of_block (w := w0) (a := ⟨B, 0, none⟩) (hA B (.inl rfl))).trans (hB.cell 0)), by omega,
      fun b hb => (hW b (.inr hb)).trans (hA b (.inr hb))⟩
  have hdec : ∀ W1 p r z, Agree (fun b => b = B ∨ b < 6) W W1 → W.heap.size ≤ W1.heap.size → p < s.size → Utf8.decode s p = (r, z) → Calls Tryz.prog 213 #[.string (s.extract p s.size)] W1 fun e w' => e = .returned (.tuple #[.int .i32 (r : Int), .int .i64 (z : Int)]) ∧ Nw W1 w' := fun W1 p r z hW hz hp hd => by
    have h := hD W1 (hss W1 hW hz).2.2 (s.extract p s.size)
    rw [Lib.decodeGo_extract s p hp, hd] at h
    exact h
  have HTK := Lib.hid hTk
  have HSS := Lib.hid hss
  have HJ := Lib.hid hJ
  have HDEC := Lib.hid hdec
  have HKW := Lib.hid hKW
  clear hTk hA hJ hB hss hdec hD h6 hlB hsz hKW
  show Calls _ _ #[.func (.yield l) #[] #[], .pointer (some ⟨B, 0, none⟩)] W _
  refine (callsIn_wide (n := 5)).1 ?_
  refine callsIn_of_wp Tryz.func212 rfl trivial ?_ rfl
  simp only [Tryz.ntmps212, List.size_toArray, List.length_cons, List.length_nil, Nat.reduceAdd, Nat.reduceSub, Array.replicate_succ, Array.replicate_zero, List.push_toArray, List.append_toArray, List.nil_append, List.cons_append]
  gi_wp2_with fail
  gi_loopw [3] (fun v wr => ∃ (p f : Nat) (pre : List (Nat × Nat)) (Wj : World), v = .int .i64 (p : Int) ∧ p ≤ s.size ∧ Hid (RuneS s J (fun b => b = B ∨ b < 6) W p f pre Wj wr)) (fun v _ => s.size - (intOf v).toNat)
  case atStart => exact ⟨0, s.size, [], W, rfl, Nat.zero_le _, Lib.hid ⟨HJ.out, Sb.refl _ _, rfl, by omega, Agree.refl _, Nat.le_refl _⟩⟩
  case round =>
    obtain ⟨p, f, pre, Wj, rfl, hp, HS⟩ := hrel
    obtain ⟨c0, lB, -⟩ := HSS.out wr HS.out.ag HS.out.sz
    by_cases hlt : p < s.size
    · obtain ⟨r, z, hd⟩ : ∃ r z, Utf8.decode s p = (r, z) := ⟨_, _, rfl⟩
      obtain ⟨hz1, hz2, hr⟩ := decode_fits hlt
      rw [hd] at hz1 hz2 hr
      dsimp only at hz1 hz2 hr
      have hdc := HDEC.out wr p r z HS.out.ag HS.out.sz hlt hd
      have g1 : (p : Int) < (s.size : Int) := by omega
      have g2 : (0 : Int) ≤ (p : Int) := by omega
      have g3 : (p : Int) ≤ (s.size : Int) := by omega
      have g4 : IntKind.i64.wrap ((p : Int) + (z : Int)) = (p : Int) + (z : Int) := by rw [IntKind.wrap_i64]; omega
      have HDC := Lib.hid hdc
      have HD := Lib.hid hd
      clear hdc hd
      gi_wp2_with fail
      refine ⟨trivial, ?_⟩
      refine (callsIn_wide.2 HDC.out).mono ?_
      rintro e w2 ⟨rfl, hn2⟩
      have HS2 := Lib.hid (HS.out.grow HKW.out hn2)
      clear hn2
      by_cases hbad : r = 65533 ∧ z = 1
      · obtain ⟨rfl, rfl⟩ := hbad
        have HE := Lib.hid (show RuneDone s pre by show pre = runesS s; rw [HS2.out.pre_, runesAt_bad HD.out, List.append_nil])
        gi_wp2_with fail
        refine bodyPost_ret (v := .tuple #[]) (by simp [results, Tryz.results212, go_sem]) rfl ?_
        exact ⟨⟨_, rfl⟩, .inl ⟨pre, Wj, HE.out, HS2.out.inv, HS2.out.nw⟩⟩
      · have hbd : Utf8.decode s p ≠ (65533, 1) := by rw [HD.out]; intro e; injection e with e1 e2; exact hbad ⟨e1, e2⟩
        have hy := HTK.out pre (p, r) Wj w2 HS2.out.inv HS2.out.nw (by show _[_]? = _; rw [HS2.out.pre_, runesAt_go hlt HS2.out.few hbd, HD.out, List.getElem?_append_right (Nat.le_refl _), Nat.sub_self]; rfl)
        obtain ⟨fn, tmps, assign, body, hy, hR⟩ := hy
        have HR := Lib.hid hR
        have HBD := Lib.hid hbd
        have HZ1 := Lib.hid hz1
        dsimp only [encRune] at hy
        clear hR hbd
        have hok : ∀ (e : Ending) (w' : World), ((e = .returned (.bool true) ∧ J (pre ++ [(p, r)]) w' ∧ Agree (fun b => b = B ∨ b < 6) w2 w' ∧ w2.heap.size ≤ w'.heap.size) ∨ (e = .returned (.bool false) ∧ Jx (pre ++ [(p, r)]) w')) →
            (e = .returned (.bool true) ∧ Hid (RuneS s J (fun b => b = B ∨ b < 6) W (p + z) (f - 1) (pre ++ [(p, r)]) w' w')) ∨ (e = .returned (.bool false) ∧ Jx (pre ++ [(p, r)]) w') := by
          rintro e w' (⟨rfl, h1, h2, h3⟩ | ⟨rfl, h1⟩)
          · exact .inl ⟨rfl, Lib.hid (runeS_next HS2.out hlt HD.out HZ1.out HBD.out h1 h2 h3)⟩
          · exact .inr ⟨rfl, h1⟩
        have HOK := Lib.hid hok
        clear hok
        by_cases hr5 : r = 65533
        · have hz5 : z ≠ 1 := fun e => hbad ⟨hr5, e⟩
          have b1 : ((r : Int) == 65533) = true := by simp [hr5]
          have b2 : ((z : Int) == 1) = false := by simp; omega
          clear hr5 hz5 hbad hz1
          gi_wp2_with fail
          refine HR.out.mono ?_
          intro e w6 h6
          rcases HOK.out e w6 h6 with ⟨rfl, HS6⟩ | ⟨rfl, hjx⟩
          · clear h6 hy
            gi_wp2_with fail
            go_roundw
            case rel => exact ⟨p + z, f - 1, _, w6, by go_num, hz2, HS6⟩
            case measure => have := HZ1.out; simp [intOf]; omega
          · clear h6 hy
            gi_wp2_with fail
            refine bodyPost_ret (v := .tuple #[]) (by simp [results, Tryz.results212, go_sem]) rfl ?_
            exact ⟨⟨_, rfl⟩, .inr ⟨_, w6, trivial, hjx, Sb.refl _ _⟩⟩
        · have b1 : ((r : Int) == 65533) = false := by simp; omega
          clear hr5 hbad hz1
          gi_wp2_with fail
          refine HR.out.mono ?_
          intro e w6 h6
          rcases HOK.out e w6 h6 with ⟨rfl, HS6⟩ | ⟨rfl, hjx⟩
          · clear h6 hy
            gi_wp2_with fail
            go_roundw
            case rel => exact ⟨p + z, f - 1, _, w6, by go_num, hz2, HS6⟩
            case measure => have := HZ1.out; simp [intOf]; omega
          · clear h6 hy
            gi_wp2_with fail
            refine bodyPost_ret (v := .tuple #[]) (by simp [results, Tryz.results212, go_sem]) rfl ?_
            exact ⟨⟨_, rfl⟩, .inr ⟨_, w6, trivial, hjx, Sb.refl _ _⟩⟩
    · obtain rfl : p = s.size := by omega
      have HE := Lib.hid (show RuneDone s pre by show pre = runesS s; rw [HS.out.pre_, runesAt_stop (Nat.le_refl _), List.append_nil])
      have g1 : ¬ (s.size : Int) < (s.size : Int) := by omega
      gi_wp2_with fail
      go_end0
      exact ⟨⟨_, rfl⟩, .inl ⟨pre, HE.out, Wj, HS.out.inv, HS.out.nw⟩⟩
end Go.Proofs.YtechahocffcbpaaGreatDoor
namespace Go.Proofs.YtechahocffcbpaaGreatDoor
open Go.RowKit Go.Maps Go.Shelf
set_option linter.unusedVariables false
set_option linter.unusedSimpArgs false
theorem runeKey : Keyed Tryz.prog 21 := int_keyed (q := .i32) Tryz.underlying21
abbrev putR (D : DataW Unit) (r c : Int) : DataW Unit := D.put (.int .i32 r) (.lit (.int .i32 c))
def lettersD : DataW Unit := putR (putR (putR (putR (putR (putR (putR (.map []) 34 34) 92 92) 8 98) 9 116) 10 110) 12 102) 13 114
theorem isMap_putR {D : DataW Unit} (hD : IsMap D) (r c : Int) : IsMap (putR D r c) := hD.put _ _
theorem has_putR {D : DataW Unit} (hD : IsMap D) (r c x : Int) : Maps.has (putR D r c) (.int .i32 x) = (decide (x = r) || Maps.has D (.int .i32 x)) := by
  by_cases h : x = r
  · subst h; rw [putR, has_put_same hD (show WideAt.IsKeyLit (.int .i32 x) from trivial)]; simp
  · rw [putR, has_put_other (fun e => h (by injection e))]; simp [h]
theorem at_putR {D : DataW Unit} (hD : IsMap D) (r c x : Int) (z : DataW Unit) : (putR D r c).atKey (.int .i32 x) z = if x = r then .lit (.int .i32 c) else D.atKey (.int .i32 x) z := by
  by_cases h : x = r
  · subst h; rw [putR, atKey_put_same hD (show WideAt.IsKeyLit (.int .i32 x) from trivial), if_pos rfl]
  · rw [putR, atKey_put_other (fun e => h (by injection e)), if_neg h]
theorem isMap0 : IsMap (.map [] : DataW Unit) := ⟨_, rfl⟩
theorem isMap1 : IsMap (putR (.map []) 34 34) := isMap_putR isMap0 _ _
theorem isMap2 : IsMap (putR (putR (.map []) 34 34) 92 92) := isMap_putR isMap1 _ _
theorem isMap3 : IsMap (putR (putR (putR (.map []) 34 34) 92 92) 8 98) := isMap_putR isMap2 _ _
theorem isMap4 : IsMap (putR (putR (putR (putR (.map []) 34 34) 92 92) 8 98) 9 116) := isMap_putR isMap3 _ _
theorem isMap5 : IsMap (putR (putR (putR (putR (putR (.map []) 34 34) 92 92) 8 98) 9 116) 10 110) := isMap_putR isMap4 _ _
theorem isMap6 : IsMap (putR (putR (putR (putR (putR (putR (.map []) 34 34) 92 92) 8 98) 9 116) 10 110) 12 102) := isMap_putR isMap5 _ _
theorem letters_has (r : Nat) : Maps.has lettersD (.int .i32 (r : Int)) = (letterR r).isSome := by
  have h0 : Maps.has (.map [] : DataW Unit) (.int .i32 (r : Int)) = false := rfl
  rw [lettersD, has_putR isMap6, has_putR isMap5, has_putR isMap4, has_putR isMap3, has_putR isMap2, has_putR isMap1, has_putR isMap0, h0]
  unfold letterR
  repeat' split
  all_goals (try subst_vars)
  all_goals simp
  all_goals omega
theorem letters_at (r : Nat) : lettersD.atKey (.int .i32 (r : Int)) (.lit (.int .i32 0)) = .lit (.int .i32 (((letterR r).getD 0 : Nat) : Int)) := by
  have h0 : (.map [] : DataW Unit).atKey (.int .i32 (r : Int)) (.lit (.int .i32 0)) = .lit (.int .i32 0) := rfl
  rw [lettersD, at_putR isMap6, at_putR isMap5, at_putR isMap4, at_putR isMap3, at_putR isMap2, at_putR isMap1, at_putR isMap0, h0]
  unfold letterR
  repeat' split
  all_goals first | rfl | (exfalso; omega)
abbrev LetAt (w : World) (M : Nat) : Prop := w.ownsMap Tryz.prog 21 (plainElem Tryz.prog 21) M 7 lettersD
theorem let_val (c : Int) (hc : (Lit.int .i32 c).wf = true) : plainElem (H := Unit) Tryz.prog 21 (.int .i32 c) = some (.lit (.int .i32 c), []) := plainElem_int Tryz.underlying21 hc
theorem let_key (c : Int) (hc : (Lit.int .i32 c).wf = true) : keyOf Tryz.prog 21 (.int .i32 c) = some (.int .i32 c) := keyOf_int_mk Tryz.underlying21 hc
theorem letR_any (w : World) : Calls Tryz.prog 202 #[] w fun e w' => e = .returned (.map (some w.heap.size)) ∧ Nw w w' ∧ LetAt w' w.heap.size := by
  have hmm := @run_makeMap Tryz.prog
  have hm0 := World.ownsMap_made w Tryz.prog 21 (plainElem (H := Unit) Tryz.prog 21)
  obtain ⟨w1, r1, hm1, hg1⟩ := hm0.update runeKey Tryz.underlying238 (by decide) (let_key 34 (by decide)) (let_val 34 (by decide))
  obtain ⟨w2, r2, hm2, hg2⟩ := hm1.update runeKey Tryz.underlying238 (by decide) (let_key 92 (by decide)) (let_val 92 (by decide))
  obtain ⟨w3, r3, hm3, hg3⟩ := hm2.update runeKey Tryz.underlying238 (by decide) (let_key 8 (by decide)) (let_val 98 (by decide))
  obtain ⟨w4, r4, hm4, hg4⟩ := hm3.update runeKey Tryz.underlying238 (by decide) (let_key 9 (by decide)) (let_val 116 (by decide))
  obtain ⟨w5, r5, hm5, hg5⟩ := hm4.update runeKey Tryz.underlying238 (by decide) (let_key 10 (by decide)) (let_val 110 (by decide))
  obtain ⟨w6, r6, hm6, hg6⟩ := hm5.update runeKey Tryz.underlying238 (by decide) (let_key 12 (by decide)) (let_val 102 (by decide))
  obtain ⟨w7, r7, hm7, hg7⟩ := hm6.update runeKey Tryz.underlying238 (by decide) (let_key 13 (by decide)) (let_val 114 (by decide))
  have HM := Lib.hid hm7
  clear hm0 hm1 hm2 hm3 hm4 hm5 hm6 hm7
  go_enter Tryz.func202, Tryz.ntmps202
  go_wp2_with fail
  go_ret
  refine ⟨rfl, ?_, HM.out⟩
  have h0 : Nw w (w.alloc (.map #[] 0)) := Sb.made (World.grownBy_alloc _ _ _)
  exact ((((((h0.comp (Sb.grown hg1) fun i hi e => by have e : i = w.heap.size := e; omega).comp (Sb.grown hg2) fun i hi e => by have e : i = w.heap.size := e; omega).comp (Sb.grown hg3) fun i hi e => by have e : i = w.heap.size := e; omega).comp (Sb.grown hg4) fun i hi e => by have e : i = w.heap.size := e; omega).comp (Sb.grown hg5) fun i hi e => by have e : i = w.heap.size := e; omega).comp (Sb.grown hg6) fun i hi e => by have e : i = w.heap.size := e; omega).comp (Sb.grown hg7) fun i hi e => by have e : i = w.heap.size := e; omega
attribute [local go_sem] Oper.semAt_some
structure LibQ (w : World) : Prop where
  lib : Lib0 w
  dec : DecOK w
  num : ∀ W, G5 w W → ∀ n : Int, -9223372036854775808 ≤ n → n ≤ 9223372036854775807 → Calls Tryz.prog 142 #[.int .i64 n, .int .i64 10] W fun e w' => e = .returned (.string ⟨(Lib.itoa n).toArray⟩) ∧ Nw W w'
theorem LibQ.sb {H : Nat → Prop} {w w' : World} (h : LibQ w) (k : Sb H w w') (hH : ∀ b, b < 6 → ¬ H b) : LibQ w' :=
  ⟨h.lib.sb k hH, h.dec.sb h.lib.big k hH, fun W hW => h.num W ((k.g5 h.lib.big hH).trans hW)⟩
theorem LibQ.nw {w w' : World} (h : LibQ w) (k : Nw w w') : LibQ w' := h.sb k fun _ _ e => e
def quoteA (s : ByteArray) : ByteArray := if Lib.validD s.data.toList then ⟨(quoteS s).toArray⟩ else ByteArray.empty
theorem zeroRune (w : World) : (zeroValue 21).run Tryz.prog w = .ok (.int .i32 0) w := by kernel_rfl
theorem look_letter {W : World} {M : Nat} (h : LetAt W M) (r : Nat) (hr : r ≤ 1114111) :
    (Instr.lookup 238 (.map (some M)) (.int .i32 (r : Int)) true).run Tryz.prog W = .ok (.tuple #[.int .i32 (((letterR r).getD 0 : Nat) : Int), .bool (letterR r).isSome]) W := by
  obtain ⟨v, ps, hrun, hv⟩ := World.ownsMap.look_ok h runeKey Tryz.underlying238 (zeroRune W) (let_val 0 (by decide)) (let_key r (by simp [Lit.wf, IntKind.min, IntKind.max, IntKind.signed, IntKind.bits]; omega))
  rw [letters_at] at hv
  rw [letters_has] at hrun
  obtain ⟨c, rfl, hc, -⟩ := plainElem_int_inv Tryz.underlying21 hv
  have := congrArg Prod.fst hc
  simp only [DataW.lit.injEq, Lit.int.injEq, true_and] at this
  rw [hrun, this]
theorem LetAt.set {W : World} {M : Nat} (h : LetAt W M) {p : Addr} (hp : M ≠ p.block) (u : Value) : LetAt (W.setCell p u) M := ownsMap_heap h (Below.heap_setCell _ _ _ _ hp)
theorem Bld.keep {B b x : Nat} {bs : List Value} {W W' : World} (h : Bld B b bs W) (k : Sb (fun i => i = x) W W') (hb : b ≠ x) (hx : ∀ c fz, W.heap[x]? ≠ some (.cells c 5 fz)) : Bld B b bs W' := by
  have hg : W.grownBy W' (some x) := ⟨k.os, k.tape, k.output, k.size, fun i hi hn => k.block i hi fun e => hn (by rw [e])⟩
  have hA : ∀ p, Lib.BuilderAtF 142 5 B b p bs W → Lib.BuilderAtF 142 5 B b p bs W' := by
    rintro p ⟨h1, v, h2, h3, h4⟩
    refine ⟨h1, v, (k.block b (lt_of_block h2) hb).trans h2, h3.kept hg ?_, h4⟩
    rcases h3.2 with ⟨rfl, _⟩ | ⟨g, cap, cur, fz, rfl, _, hgc, _⟩
    · exact .inl rfl
    · refine .inr fun e => ?_
      simp only [Value.ownBlock, Option.some.injEq] at e
      subst e
      exact hx _ _ hgc
  exact h.imp (hA _) (hA _)
theorem Bld.nw {B b : Nat} {bs : List Value} {W W' : World} (h : Bld B b bs W) (k : Nw W W') : Bld B b bs W' := by
  have hg : W.grownBy W' none := ⟨k.os, k.tape, k.output, k.size, fun i hi _ => k.block i hi fun e => e⟩
  have hA : ∀ p, Lib.BuilderAtF 142 5 B b p bs W → Lib.BuilderAtF 142 5 B b p bs W' := by
    rintro p ⟨h1, v, h2, h3, h4⟩
    refine ⟨h1, v, (k.block b (lt_of_block h2) fun e => e).trans h2, h3.kept hg ?_, h4⟩
    cases v.ownBlock with
    | none => exact .inl rfl
    | some x => exact .inr (by simp)
  exact h.imp (hA _) (hA _)
theorem Bld.lt {B b : Nat} {bs : List Value} {W : World} (h : Bld B b bs W) : b < W.heap.size := h.elim (fun h => h.lt) (fun h => h.lt)
structure QK (B : Nat) (w w' : World) : Prop where
  os : w'.os = w.os
  tape : w'.tape = w.tape
  output : w'.output = w.output
  size : w.heap.size ≤ w'.heap.size
  block : ∀ k, k < B → k < w.heap.size → w'.heap[k]? = w.heap[k]?
  others : ∀ k o, w.heap[k]? = some o → k ≠ B → k ≠ B + 1 → (∀ c fz, o ≠ .cells c 5 fz) → w'.heap[k]? = some o
theorem QK.refl (B : Nat) (w : World) : QK B w w := ⟨rfl, rfl, rfl, Nat.le_refl _, fun _ _ _ => rfl, fun _ _ h _ _ _ => h⟩
theorem QK.trans {B : Nat} {a b c : World} (h : QK B a b) (k : QK B b c) : QK B a c :=
  ⟨k.os.trans h.os, k.tape.trans h.tape, k.output.trans h.output, Nat.le_trans h.size k.size, fun i hi hl => (k.block i hi (Nat.lt_of_lt_of_le hl h.size)).trans (h.block i hi hl), fun i o ho h1 h2 h3 => k.others i o (h.others i o ho h1 h2 h3) h1 h2 h3⟩
theorem QK.nw {B : Nat} {w w' : World} (h : Nw w w') : QK B w w' :=
  ⟨h.os, h.tape, h.output, h.size, fun k _ hl => h.block k hl fun e => e, fun k o ho _ _ _ => (h.block k (Array.getElem?_eq_some_iff.1 ho).1 fun e => e).trans ho⟩
theorem QK.of {B : Nat} {w w' : World} (h : Below B w w') (k : Lib.OthersKept 5 (some (B + 1)) w w') : QK B w w' :=
  ⟨h.os, h.tape, h.output, h.size, fun i hi _ => h.block i hi, fun i o ho _ h2 h3 => k i o ho (fun e => h2 (by injection e)) h3⟩
theorem QK.set {B : Nat} (w : World) (u : Value) : QK B w (w.setCell ⟨B, 0, none⟩ u) :=
  ⟨rfl, rfl, rfl, by simp, fun k hk _ => Below.heap_setCell _ _ _ _ (by show k ≠ B; omega), fun k o ho h1 _ _ => (Below.heap_setCell _ _ _ _ h1).trans ho⟩
theorem QK.blk {B : Nat} {w w' : World} (h : QK B w w') {g : Nat} {t : TypeId} {cs : Array Value} (hb : Blk w g t cs) (h1 : g ≠ B) (h2 : g ≠ B + 1) (ht : t ≠ 5) : Blk w' g t cs :=
  h.others g _ hb h1 h2 fun c fz e => ht (by injection e)
theorem QK.let_ {B : Nat} {w w' : World} (h : QK B w w') {M : Nat} (hm : LetAt w M) (h1 : M ≠ B) (h2 : M ≠ B + 1) : LetAt w' M := by
  refine ownsMap_heap hm ?_
  obtain ⟨es, clock, hb, -⟩ := hm
  rw [hb]
  exact h.others M _ hb h1 h2 fun c fz e => by cases e
theorem QK.old {w1 W W' : World} (h : Nw w1 W) (k : QK w1.heap.size W W') : Nw w1 W' :=
  ⟨k.os.trans h.os, k.tape.trans h.tape, k.output.trans h.output, Nat.le_trans h.size k.size, fun b hb hn => (k.block b hb (Nat.lt_of_lt_of_le hb h.size)).trans (h.block b hb hn)⟩
theorem QK.agree {w1 W W' : World} {K : Nat → Prop} (k : QK w1.heap.size W W') (hK : ∀ b, K b → (b < w1.heap.size ∧ b < W.heap.size) ∨ ∃ o, W.heap[b]? = some o ∧ b ≠ w1.heap.size ∧ b ≠ w1.heap.size + 1 ∧ ∀ c fz, o ≠ .cells c 5 fz) : Agree K W W' := fun b hb => by
  rcases hK b hb with ⟨h1, h2⟩ | ⟨o, h1, h2, h3, h4⟩
  · exact k.block b h1 h2
  · rw [h1]; exact k.others b o h1 h2 h3 h4
structure QI (w1 : World) (pre : List (Nat × Nat)) (W : World) : Prop where
  bld : Bld w1.heap.size (w1.heap.size + 1) (Lib.byteCells (34 :: quoteL pre)) W
  let_ : ∃ mb, Blk W w1.heap.size 238 #[.map mb] ∧ ∀ M, mb = some M → M ≠ w1.heap.size ∧ M ≠ w1.heap.size + 1 ∧ LetAt W M
  old : Nw w1 W
theorem QI.nw {w1 W W' : World} {pre : List (Nat × Nat)} (h : QI w1 pre W) (k : Nw W W') : QI w1 pre W' := by
  obtain ⟨mb, h1, h2⟩ := h.let_
  exact ⟨h.bld.nw k, ⟨mb, k.blk h1, fun M hM => ⟨(h2 M hM).1, (h2 M hM).2.1, ownsMap_heap (h2 M hM).2.2 (k.block M (World.ownsMap.lt (h2 M hM).2.2) fun e => e)⟩⟩, h.old.trans k⟩
theorem QI.turn {w1 W W' : World} {pre : List (Nat × Nat)} {x : Nat} (h : QI w1 pre W) (k : Sb (fun i => i = x) W W') (hx : w1.heap.size + 1 < x) (hl : ∃ r, W.heap[x]? = some (.loop r)) : QI w1 pre W' := by
  obtain ⟨mb, h1, h2⟩ := h.let_
  obtain ⟨r, hr⟩ := hl
  refine ⟨h.bld.keep k (by omega) (fun c fz e => by rw [hr] at e; cases e), ⟨mb, k.blk h1 (by omega), fun M hM => ⟨(h2 M hM).1, (h2 M hM).2.1, ownsMap_heap (h2 M hM).2.2 (k.block M (World.ownsMap.lt (h2 M hM).2.2) fun e => ?_)⟩⟩, h.old.comp k fun i hi e => by omega⟩
  obtain ⟨es, clock, hb, -⟩ := (h2 M hM).2.2
  subst e
  rw [hr] at hb; cases hb
theorem QI.snoc {w1 W W' : World} {pre : List (Nat × Nat)} {x : Nat × Nat} {mb : Option Nat} (h : QI w1 pre W) (k : QK w1.heap.size W W') (hb : Bld w1.heap.size (w1.heap.size + 1) (Lib.byteCells (34 :: quoteL (pre ++ [x]))) W')
    (hL : Blk W' w1.heap.size 238 #[.map mb]) (hM : ∀ M, mb = some M → M ≠ w1.heap.size ∧ M ≠ w1.heap.size + 1 ∧ LetAt W' M) : QI w1 (pre ++ [x]) W' :=
  ⟨hb, ⟨mb, hL, hM⟩, k.old h.old⟩
theorem byteCells_snoc (l r : List UInt8) : Lib.byteCells (l ++ r) = Lib.byteCells l ++ Lib.byteCells r := by simp [Lib.byteCells]
theorem and15 {r : Nat} (h : r < 32) : bits .and .i32 (r : Int) 15 = (r : Int) % 16 := by
  have : ∀ k : Fin 32, bits .and .i32 ((k.val : Nat) : Int) 15 = ((k.val : Nat) : Int) % 16 := by decide
  exact this ⟨r, h⟩
theorem hex_get (k : Nat) (hk : k < 16) (h : k < (ByteArray.mk #[48, 49, 50, 51, 52, 53, 54, 55, 56, 57, 97, 98, 99, 100, 101, 102]).size) : (ByteArray.mk #[48, 49, 50, 51, 52, 53, 54, 55, 56, 57, 97, 98, 99, 100, 101, 102])[k]'h = hexD k := by
  have : ∀ k : Fin 16, (ByteArray.mk #[48, 49, 50, 51, 52, 53, 54, 55, 56, 57, 97, 98, 99, 100, 101, 102])[k.val]'k.isLt = hexD k.val := by decide
  exact this ⟨k, hk⟩
theorem QI.next {w1 W W' : World} {pre : List (Nat × Nat)} {x : Nat × Nat} {mb : Option Nat} {Bs D : Nat} {s : ByteArray} (h : QI w1 pre W) (hs : Blk W Bs 9 #[.string s]) (hBs : w1.heap.size + 1 < Bs) (hD : W.heap[D]? = some (.deferred (some []))) (hDn : w1.heap.size + 1 < D) (hl : ∃ r, W.heap[D + 1]? = some (.loop r)) (h6 : 6 ≤ w1.heap.size)
    (k : QK w1.heap.size W W') (hb : Bld w1.heap.size (w1.heap.size + 1) (Lib.byteCells (34 :: quoteL (pre ++ [x]))) W') (hL : Blk W' w1.heap.size 238 #[.map mb]) (hM : ∀ M, mb = some M → M ≠ w1.heap.size ∧ M ≠ w1.heap.size + 1 ∧ LetAt W' M) :
    (QI w1 (pre ++ [x]) W' ∧ Blk W' Bs 9 #[.string s]) ∧ Agree (fun b => (b = Bs ∨ b < 6) ∨ b = D ∨ b = D + 1) W W' ∧ W.heap.size ≤ W'.heap.size := by
  have ho := h.old.size
  refine ⟨⟨h.snoc k hb hL hM, k.blk hs (by omega) (by omega) (by decide)⟩, k.agree fun b hb => ?_, k.size⟩
  rcases hb with (rfl | hb) | rfl | rfl
  · exact .inr ⟨_, hs, by omega, by omega, fun c fz e => by injection e with e1 e2; exact absurd e2 (by decide)⟩
  · exact .inl ⟨by omega, by omega⟩
  · exact .inr ⟨_, hD, by omega, by omega, fun c fz e => by cases e⟩
  · obtain ⟨r, hr⟩ := hl
    exact .inr ⟨_, hr, by omega, by omega, fun c fz e => by cases e⟩
theorem quote_plain {pre : List (Nat × Nat)} {px r : Nat} (h : standsR (r : Int) = true) : Lib.byteCells (34 :: quoteL (pre ++ [(px, r)])) = Lib.byteCells (34 :: quoteL pre) ++ Lib.runeCells (r : Int) := by
  have : quoteR r = Lib.encodeRune r := by unfold quoteR; rw [h]; rfl
  rw [quoteL_snoc, this, ← List.cons_append, byteCells_snoc, Lib.byteCells_encodeRune]
theorem runeCells_small {c : Nat} (h : c < 128) : Lib.runeCells (c : Int) = Lib.byteCells [c.toUInt8] := by
  rw [Lib.runeCells, Lib.encodeRuneZ_one (by omega) (by omega)]
  simp [Lib.byteCells]
  omega
theorem letter_lt {r c : Nat} (hc : letterR r = some c) : c < 128 := by
  unfold letterR at hc
  repeat' split at hc
  all_goals first | (cases hc; done) | (injection hc with hc; omega)
theorem quote_letter {pre : List (Nat × Nat)} {px r c : Nat} (h : standsR (r : Int) = false) (hc : letterR r = some c) : Lib.byteCells (34 :: quoteL (pre ++ [(px, r)])) = (Lib.byteCells (34 :: quoteL pre) ++ [.int .u8 92]) ++ Lib.runeCells (c : Int) := by
  have h128 := letter_lt hc
  have : quoteR r = [92] ++ [c.toUInt8] := by unfold quoteR; rw [h, hc]; rfl
  rw [quoteL_snoc, this, ← List.cons_append, ← List.append_assoc, byteCells_snoc, byteCells_snoc, runeCells_small h128]
  rfl
theorem quote_hex {pre : List (Nat × Nat)} {px r : Nat} (h : standsR (r : Int) = false) (hc : letterR r = none) : Lib.byteCells (34 :: quoteL (pre ++ [(px, r)])) = ((Lib.byteCells (34 :: quoteL pre) ++ Lib.strCells ⟨#[92, 117, 48, 48]⟩) ++ [.int .u8 (hexD (r / 16)).toNat]) ++ [.int .u8 (hexD (r % 16)).toNat] := by
  have : quoteR r = [92, 117, 48, 48] ++ [hexD (r / 16)] ++ [hexD (r % 16)] := by unfold quoteR; rw [h, hc]; rfl
  rw [quoteL_snoc, this, ← List.cons_append, ← List.append_assoc, ← List.append_assoc, byteCells_snoc, byteCells_snoc, byteCells_snoc]
  rfl
theorem few_hex {r : Nat} (h : standsR (r : Int) = false) (hc : letterR r = none) : r < 32 := by
  unfold letterR at hc
  simp only [standsR, Bool.and_eq_false_iff, decide_eq_false_iff_not, bne_eq_false_iff_eq] at h
  repeat' split at hc
  all_goals first | (cases hc; done) | omega
end Go.Proofs.YtechahocffcbpaaGreatDoor
namespace Go.Proofs.YtechahocffcbpaaGreatDoor
open Go.RowKit Go.Maps Go.Shelf
set_option linter.unusedVariables false
set_option linter.unusedSimpArgs false
attribute [local go_sem] Oper.semAt_some
theorem bstr_any2 {w : World} {B b : Nat} {l : List UInt8} (h : Bld B b (Lib.byteCells l) w) (hB : B ≤ w.heap.size) :
    Calls Tryz.prog 203 #[.pointer (some ⟨b, 0, none⟩)] w fun e w' => e = .returned (.string ⟨l.toArray⟩) ∧ Below B w w' ∧ Lib.OthersKept 5 (some b) w w' :=
  (Any.Builder_String_any_k Tryz.layBuilderString (bldX _ rfl rfl) B b l w h hB).mono fun e w' h => ⟨h.1, h.2.2.1, h.2.2.2⟩
def codeQ (s : ByteArray) : Int := if Lib.validD s.data.toList then 0 else 3
theorem utfQuote_any {w : World} (hL : LibQ w) {s : ByteArray} (hs : s.size ≤ 10000000) :
    Calls Tryz.prog 183 #[.string s] w fun e w' => e = .returned (.tuple #[.string (quoteA s), .int .i64 (codeQ s)]) ∧ Nw w w' := by
  have hv := utfValid_any hL.lib (k := s) (by unfold maxLen; omega)
  have qmn : ∀ (w : World) (r : Option Nat), (binOp .eql 238 (.map r) (.map none)).run Tryz.prog w = .ok (.bool r.isNone) w := fun w r => run_eql_map_nil w _ _ _ r Tryz.underlying238
  have HV := Lib.hid hv
  have HL := Lib.hid hL
  clear hv hL
  refine (callsIn_wide (n := 6)).1 ?_
  refine callsIn_of_wp_marks Tryz.func183 rfl trivial ?_ rfl
  simp only [Tryz.ntmps183, List.size_toArray, List.length_cons, List.length_nil, Nat.reduceAdd, Nat.reduceSub, Array.replicate_succ, Array.replicate_zero, List.push_toArray, List.append_toArray, List.nil_append, List.cons_append]
  gi_wp2_with fail
  refine ⟨trivial, ?_⟩
  refine (callsIn_wide.2 HV.out).mono ?_
  rintro e w1 ⟨rfl, hn1⟩
  cases hvd : Lib.validD s.data.toList with
  | false =>
    have HQ := Lib.hid (show quoteA s = ByteArray.empty by unfold quoteA; rw [hvd]; rfl)
    have HCQ := Lib.hid (show codeQ s = 3 by unfold codeQ; rw [hvd]; rfl)
    have HN := Lib.hid hn1
    clear hn1 hvd
    gi_wp2_with fail
    refine ⟨.tuple #[.string ⟨#[]⟩, .int .i64 3], by simp [results, Tryz.results183, go_sem], ?_⟩
    exact ⟨by rw [HQ.out, HCQ.out]; rfl, HN.out⟩
  | true =>
    have HQ := Lib.hid (show quoteA s = ⟨(quoteS s).toArray⟩ by unfold quoteA; rw [hvd]; rfl)
    have HCQ := Lib.hid (show codeQ s = 0 by unfold codeQ; rw [hvd]; rfl)
    have hL1 := HL.out.nw hn1
    have HN1 := Lib.hid hn1
    have HL1 := Lib.hid hL1
    clear hn1 hvd hL1
    gi_wp2_with fail
    generalize hW0 : World.alloc (World.alloc _ _) _ = W0
    obtain ⟨hx0, hz0, hb0, hb1⟩ := two_blocks w1 _ _ _ _ W0 hW0
    have hbld0 : Bld w1.heap.size (w1.heap.size + 1) [] W0 := .inl ⟨Nat.le_succ _, .slice none 0 0, hb1, World.ownsRowF_of (World.ownsRow_nil _ _ _ _), by simp [Value.ownBlock]⟩
    have hwb := wbyte_any 34 hbld0 (by simp) (by omega)
    have HWB := Lib.hid hwb
    have HX0 := Lib.hid hx0
    have HB0 := Lib.hid hb0
    clear hW0 hbld0 hwb hx0 hb1
    refine ⟨trivial, ?_⟩
    refine (callsIn_wide.2 HWB.out).mono ?_
    rintro e w2 ⟨rfl, hbld2, hbw2, hok2⟩
    have hqk2 := QK.of hbw2 hok2
    have hqi2 : QI w1 [] w2 := ⟨hbld2, ⟨none, hok2 _ _ HB0.out (by simp) (fun c fz e => by cases e), fun M hM => by cases hM⟩, QK.old (Nw.of HX0.out) hqk2⟩
    have hl2 : w1.heap.size + 1 < w2.heap.size := hbld2.lt
    have hL2 := HL1.out.nw hqi2.old
    have HQI2 := Lib.hid hqi2
    have HL2 := Lib.hid hL2
    clear hbld2 hbw2 hok2 hqk2 hqi2 hL2
    gi_wp2_with fail
    refine ⟨trivial, ?_⟩
    refine (callsIn_wide.2 (runes_any w2 s)).mono ?_
    rintro e w3 ⟨rfl, hx3, hb3⟩
    have hqi3 := HQI2.out.nw (Nw.of hx3)
    have hL3 := HL2.out.nw (Nw.of hx3)
    have hsz3 := hx3.size
    have hlb3 := hb3.lt
    have h63 := hL3.lib.big
    have h61 := HL1.out.lib.big
    have HSQ := Lib.hid (runes_seq (w0 := w3) hb3 hL3.dec h63 (by omega))
    have HQI3 := Lib.hid hqi3
    have HB3 := Lib.hid hb3
    clear hx3 hqi3 hL3 hb3
    gi_wp2_with fail
    refine wpIn_rangeP (gf := 212) (lb := #[.pointer (some ⟨w2.heap.size, 0, none⟩)]) rfl (enters_of Tryz.func212 (by kernel_rfl) rfl) HSQ.out (Agree.refl _) (Nat.le_refl _)
      (fun b hb => by rcases hb with rfl | hb <;> omega) (fun _ => rfl) (fun pre W => QI w1 pre W ∧ Blk W w2.heap.size 9 #[.string s]) (fun _ _ _ => False)
      (fun h k hl hl' => ⟨h.1.turn k (by omega) hl, k.blk h.2 (by omega)⟩) (fun h _ _ _ => h) (fun W hW hz => ⟨HQI3.out.nw (Nw.of hW), HB3.out.ext hW⟩) ?round ?done ?stop
    case stop =>
      rintro D c pre W hD hSp hX hDk
      exact hX.elim
    case round =>
      rintro pre x W0' W1 hI hsz hn01 hG
      have hmem : x ∈ runesS s := List.mem_of_getElem? hG
      have hx2 := (runesAt_rune hmem).1
      have hlen : pre.length < s.size := by
        have h1 := (List.getElem?_eq_some_iff.1 hG).1
        have h2 := runesAt_len s s.size 0
        unfold runesS at h1; omega
      have hql := quoteL_len pre
      have hbl : (Lib.byteCells (34 :: quoteL pre)).length ≤ 60000001 := by simp [Lib.byteCells]; omega
      have HII := Lib.hid (And.intro (hI.1.nw hn01) (hn01.blk hI.2))
      have hb01 := hn01.size
      clear hI hG hmem hn01 hql
      obtain ⟨px, r⟩ := x
      dsimp only at hx2
      gi_wp2_with fail
      refine ⟨Sb.refl _ _, fun W3 k3 hl1 hl3 hd3 => ?_⟩
      have HI3 := Lib.hid (And.intro (HII.out.1.turn k3 (by omega) hl1) (k3.blk HII.out.2 (by omega)))
      have HL3 := Lib.hid hl3
      have HD3 := Lib.hid hd3
      have hs3 := k3.size
      have hl31 := HI3.out.1.old.size
      clear k3 hl1 HII hl3 hd3
      gi_wp2_with fail
      refine ⟨trivial, ?_⟩
      refine (calls_round (stands_any W3 r)).mono ?_
      rintro e w4 ⟨rfl, rfl⟩
      obtain ⟨mb, hLb, hMb⟩ := HI3.out.1.let_
      have HLB := Lib.hid hLb
      have HMB := Lib.hid hMb
      clear hLb hMb
      cases hst : standsR (r : Int) with
      | true =>
        have hwr := wrune_any (r : Int) (by omega) (by omega) HI3.out.1.bld (by omega) (by omega)
        have HWR := Lib.hid hwr
        have HST := Lib.hid hst
        clear hwr hst
        gi_wp2_with fail
        refine ⟨trivial, ?_⟩
        refine (calls_round HWR.out).mono ?_
        rintro e w5 ⟨rfl, hb5, hbw5, hok5⟩
        have hk5 := QK.of hbw5 hok5
        have HEND := Lib.hid (HI3.out.1.next (x := (px, r)) HI3.out.2 (by omega) HD3.out (by omega) HL3.out h61 hk5 (by rw [quote_plain HST.out]; exact hb5) (hok5 _ _ HLB.out (by simp) fun c fz e => by cases e) (fun M hM => ⟨(HMB.out M hM).1, (HMB.out M hM).2.1, hk5.let_ (HMB.out M hM).2.2 (HMB.out M hM).1 (HMB.out M hM).2.1⟩))
        clear hb5 hbw5 hok5 hk5
        gi_wp2_with fail
        exact HEND.out
      | false =>
        have HST := Lib.hid hst
        have cL0 : w4.cell? ⟨w1.heap.size, 0, none⟩ = some (.map mb) := HLB.out.cell 0
        have lL0 := HLB.out.lt
        have fL0 := HLB.out.frozen 0
        clear hst
        rcases mb with _ | M
        · have hlet := letR_any w4
          have HLET := Lib.hid hlet
          clear hlet
          gi_wp2_with fail
          refine ⟨trivial, ?_⟩
          refine (calls_round HLET.out).mono ?_
          rintro e w5 ⟨rfl, hn5, hlet5⟩
          have hLB5 := hn5.blk HLB.out
          have cL5 : w5.cell? ⟨w1.heap.size, 0, none⟩ = some (.map none) := hLB5.cell 0
          have lL5 := hLB5.lt
          have fL5 := hLB5.frozen 0
          clear cL0 fL0
          gi_upto_region 12 with (fail)
          have HBL := Lib.hid (((HI3.out.1.bld.nw hn5).keep (x := w1.heap.size) ((Sb.refl (fun i => i = w1.heap.size) w5).set (p := ⟨w1.heap.size, 0, none⟩) (.inr rfl) (.map (some w4.heap.size))) (by omega) (fun c fz e => by have e2 := hLB5.symm.trans e; injection e2 with e2; injection e2 with _ e2; exact absurd e2 (by decide))))
          have HKW := Lib.hid ((QK.nw (B := w1.heap.size) hn5).trans (QK.set w5 (.map (some w4.heap.size))))
          have HLW2 := Lib.hid (hLB5.set_ 0 (.map (some w4.heap.size)))
          have HLW := Lib.hid (hlet5.set (p := ⟨w1.heap.size, 0, none⟩) (by show w4.heap.size ≠ w1.heap.size; omega) (.map (some w4.heap.size)))
          obtain ⟨M, hM⟩ : ∃ M, M = w4.heap.size := ⟨_, rfl⟩
          have HMN := Lib.hid (show M ≠ w1.heap.size ∧ M ≠ w1.heap.size + 1 by omega)
          have hlb4 := HI3.out.1.bld.lt
          rw [← hM] at HBL HKW HLW2 HLW ⊢
          generalize World.setCell w5 _ _ = W at *
          clear hM hn5 hlet5 hLB5 cL5 lL5 fL5 lL0 HLET
          have HOK0 := Lib.hid (Lib.OthersKept.refl 5 (some (w1.heap.size + 1)) W)
          have hlk := look_letter HLW.out r hx2
          have cL : W.cell? ⟨w1.heap.size, 0, none⟩ = some (.map (some M)) := HLW2.out.cell 0
          have lL := HLW2.out.lt
          have hsW := HKW.out.size
          cases hlr : letterR r with
          | some c =>
            rw [hlr] at hlk
            have HLR := Lib.hid hlr
            have hc128 := letter_lt hlr
            have hwb := wbyte_any 92 HBL.out (by omega) (by omega)
            have HWB := Lib.hid hwb
            clear hwb hlr
            gi_wp2_with fail
            refine ⟨trivial, ?_⟩
            refine (calls_round HWB.out).mono ?_
            rintro e w6 ⟨rfl, hb6, hbw6, hok6⟩
            have hz6 := hbw6.size
            have hwr := wrune_any (c : Int) (by omega) (by omega) hb6 (by rw [List.length_append]; simp only [List.length_cons, List.length_nil]; omega) (by omega)
            have HWR := Lib.hid hwr
            have HK6 := Lib.hid (QK.of hbw6 hok6)
            have HO6 := Lib.hid hok6
            clear hwr hb6 hbw6 hok6 cL hlk
            gi_wp2_with fail
            refine ⟨trivial, ?_⟩
            refine (calls_round HWR.out).mono ?_
            rintro e w7 ⟨rfl, hb7, hbw7, hok7⟩
            have hk57 := HK6.out.trans (QK.of hbw7 hok7)
            have HEND := Lib.hid (HI3.out.1.next (x := (px, r)) (mb := some M) HI3.out.2 (by omega) HD3.out (by omega) HL3.out h61 (HKW.out.trans hk57) (by rw [quote_letter HST.out HLR.out]; exact hb7) ((HO6.out.trans hok7) _ _ HLW2.out (by simp) fun c fz e => by cases e) (fun M' hM' => by injection hM' with hM'; subst hM'; exact ⟨HMN.out.1, HMN.out.2, hk57.let_ HLW.out HMN.out.1 HMN.out.2⟩))
            clear hb7 hbw7 hok7 hk57
            gi_wp2_with fail
            exact HEND.out
          | none =>
            rw [hlr] at hlk
            have hr32 := few_hex HST.out hlr
            have g15 := and15 hr32
            have HLR := Lib.hid hlr
            have hws := wstr_any ⟨#[92, 117, 48, 48]⟩ HBL.out (by show _ + 4 ≤ _; omega) (by omega)
            have HWS := Lib.hid hws
            clear hws hlr
            gi_wp2_with fail
            refine ⟨trivial, ?_⟩
            refine (calls_round HWS.out).mono ?_
            rintro e w6 ⟨⟨rs, rfl⟩, hb6, hbw6, hok6⟩
            have hz6 := hbw6.size
            have hwr := wbyte_any (hexD (r / 16)).toNat hb6 (by rw [List.length_append, show (Lib.strCells ⟨#[92, 117, 48, 48]⟩).length = 4 from rfl]; omega) (by omega)
            have HWR := Lib.hid hwr
            have HK6 := Lib.hid (QK.of hbw6 hok6)
            have HO6 := Lib.hid hok6
            clear hwr hb6 hbw6 hok6 cL hlk
            gi_wp2_with fail
            rw [hex_get (r / 16) (by omega)]
            refine ⟨trivial, ?_⟩
            refine (calls_round HWR.out).mono ?_
            rintro e w7 ⟨rfl, hb7, hbw7, hok7⟩
            have hz7 := hbw7.size
            have hwr := wbyte_any (hexD (r % 16)).toNat hb7 (by rw [List.length_append, List.length_append, show (Lib.strCells ⟨#[92, 117, 48, 48]⟩).length = 4 from rfl]; simp only [List.length_cons, List.length_nil]; omega) (by omega)
            have HWR7 := Lib.hid hwr
            have HK7 := Lib.hid (HK6.out.trans (QK.of hbw7 hok7))
            have HO7 := Lib.hid (HO6.out.trans hok7)
            clear hwr hb7 hbw7 hok7
            gi_wp2_with fail
            rw [hex_get (r % 16) (by omega)]
            refine ⟨trivial, ?_⟩
            refine (calls_round HWR7.out).mono ?_
            rintro e w8 ⟨rfl, hb8, hbw8, hok8⟩
            have hk58 := HK7.out.trans (QK.of hbw8 hok8)
            have HEND := Lib.hid (HI3.out.1.next (x := (px, r)) (mb := some M) HI3.out.2 (by omega) HD3.out (by omega) HL3.out h61 (HKW.out.trans hk58) (by rw [quote_hex HST.out HLR.out]; exact hb8) ((HO7.out.trans hok8) _ _ HLW2.out (by simp) fun c fz e => by cases e) (fun M' hM' => by injection hM' with hM'; subst hM'; exact ⟨HMN.out.1, HMN.out.2, hk58.let_ HLW.out HMN.out.1 HMN.out.2⟩))
            clear hb8 hbw8 hok8 hk58
            gi_wp2_with fail
            exact HEND.out
        · gi_upto_region 12 with (fail)
          have HBL := Lib.hid HI3.out.1.bld
          have HKW := Lib.hid (QK.refl w1.heap.size w4)
          have HLW2 := HLB
          have HLW := Lib.hid (HMB.out M rfl).2.2
          have HMN := Lib.hid (And.intro (HMB.out M rfl).1 (HMB.out M rfl).2.1)
          have HOK0 := Lib.hid (Lib.OthersKept.refl 5 (some (w1.heap.size + 1)) w4)
          have hlk := look_letter HLW.out r hx2
          have cL : w4.cell? ⟨w1.heap.size, 0, none⟩ = some (.map (some M)) := HLW2.out.cell 0
          have lL := HLW2.out.lt
          have hsW := HKW.out.size
          cases hlr : letterR r with
          | some c =>
            rw [hlr] at hlk
            have HLR := Lib.hid hlr
            have hc128 := letter_lt hlr
            have hwb := wbyte_any 92 HBL.out (by omega) (by omega)
            have HWB := Lib.hid hwb
            clear hwb hlr
            gi_wp2_with fail
            refine ⟨trivial, ?_⟩
            refine (calls_round HWB.out).mono ?_
            rintro e w6 ⟨rfl, hb6, hbw6, hok6⟩
            have hz6 := hbw6.size
            have hwr := wrune_any (c : Int) (by omega) (by omega) hb6 (by rw [List.length_append]; simp only [List.length_cons, List.length_nil]; omega) (by omega)
            have HWR := Lib.hid hwr
            have HK6 := Lib.hid (QK.of hbw6 hok6)
            have HO6 := Lib.hid hok6
            clear hwr hb6 hbw6 hok6 cL hlk
            gi_wp2_with fail
            refine ⟨trivial, ?_⟩
            refine (calls_round HWR.out).mono ?_
            rintro e w7 ⟨rfl, hb7, hbw7, hok7⟩
            have hk57 := HK6.out.trans (QK.of hbw7 hok7)
            have HEND := Lib.hid (HI3.out.1.next (x := (px, r)) (mb := some M) HI3.out.2 (by omega) HD3.out (by omega) HL3.out h61 (HKW.out.trans hk57) (by rw [quote_letter HST.out HLR.out]; exact hb7) ((HO6.out.trans hok7) _ _ HLW2.out (by simp) fun c fz e => by cases e) (fun M' hM' => by injection hM' with hM'; subst hM'; exact ⟨HMN.out.1, HMN.out.2, hk57.let_ HLW.out HMN.out.1 HMN.out.2⟩))
            clear hb7 hbw7 hok7 hk57
            gi_wp2_with fail
            exact HEND.out
          | none =>
            rw [hlr] at hlk
            have hr32 := few_hex HST.out hlr
            have g15 := and15 hr32
            have HLR := Lib.hid hlr
            have hws := wstr_any ⟨#[92, 117, 48, 48]⟩ HBL.out (by show _ + 4 ≤ _; omega) (by omega)
            have HWS := Lib.hid hws
            clear hws hlr
            gi_wp2_with fail
            refine ⟨trivial, ?_⟩
            refine (calls_round HWS.out).mono ?_
            rintro e w6 ⟨⟨rs, rfl⟩, hb6, hbw6, hok6⟩
            have hz6 := hbw6.size
            have hwr := wbyte_any (hexD (r / 16)).toNat hb6 (by rw [List.length_append, show (Lib.strCells ⟨#[92, 117, 48, 48]⟩).length = 4 from rfl]; omega) (by omega)
            have HWR := Lib.hid hwr
            have HK6 := Lib.hid (QK.of hbw6 hok6)
            have HO6 := Lib.hid hok6
            clear hwr hb6 hbw6 hok6 cL hlk
            gi_wp2_with fail
            rw [hex_get (r / 16) (by omega)]
            refine ⟨trivial, ?_⟩
            refine (calls_round HWR.out).mono ?_
            rintro e w7 ⟨rfl, hb7, hbw7, hok7⟩
            have hz7 := hbw7.size
            have hwr := wbyte_any (hexD (r % 16)).toNat hb7 (by rw [List.length_append, List.length_append, show (Lib.strCells ⟨#[92, 117, 48, 48]⟩).length = 4 from rfl]; simp only [List.length_cons, List.length_nil]; omega) (by omega)
            have HWR7 := Lib.hid hwr
            have HK7 := Lib.hid (HK6.out.trans (QK.of hbw7 hok7))
            have HO7 := Lib.hid (HO6.out.trans hok7)
            clear hwr hb7 hbw7 hok7
            gi_wp2_with fail
            rw [hex_get (r % 16) (by omega)]
            refine ⟨trivial, ?_⟩
            refine (calls_round HWR7.out).mono ?_
            rintro e w8 ⟨rfl, hb8, hbw8, hok8⟩
            have hk58 := HK7.out.trans (QK.of hbw8 hok8)
            have HEND := Lib.hid (HI3.out.1.next (x := (px, r)) (mb := some M) HI3.out.2 (by omega) HD3.out (by omega) HL3.out h61 (HKW.out.trans hk58) (by rw [quote_hex HST.out HLR.out]; exact hb8) ((HO7.out.trans hok8) _ _ HLW2.out (by simp) fun c fz e => by cases e) (fun M' hM' => by injection hM' with hM'; subst hM'; exact ⟨HMN.out.1, HMN.out.2, hk58.let_ HLW.out HMN.out.1 HMN.out.2⟩))
            clear hb8 hbw8 hok8 hk58
            gi_wp2_with fail
            exact HEND.out
    case done =>
      rintro D xs W hD hS ⟨hI, -⟩ hDk
      have hxs : xs = runesS s := hS
      have hql := quoteL_len xs
      have hrl : xs.length ≤ s.size := by rw [hxs]; exact runesAt_len s s.size 0
      have hwb := wbyte_any 34 hI.bld (by simp [Lib.byteCells]; omega) hI.old.size
      have HWB9 := Lib.hid hwb
      have HI := Lib.hid hI
      have HDK := Lib.hid hDk
      have HXS := Lib.hid hxs
      have HDE := Lib.hid hD
      clear hS hql hrl hwb hI hDk hxs hD
      gi_wp2_with fail
      refine ⟨trivial, ?_⟩
      refine (callsIn_wide.2 HWB9.out).mono ?_
      rintro e w6 ⟨rfl, hb6, hbw6, hok6⟩
      have hk6 := QK.of hbw6 hok6
      have hb6' : Bld w1.heap.size (w1.heap.size + 1) (Lib.byteCells (quoteS s)) w6 := by
        have e1 : Lib.byteCells (quoteS s) = Lib.byteCells (34 :: quoteL xs) ++ [.int .u8 34] := by
          rw [quoteS, ← HXS.out, byteCells_snoc]; rfl
        rw [e1]; exact hb6
      have hn6 := QK.old HI.out.old hk6
      have hD6 : w6.heap[D]? = some (.deferred (some [])) := hk6.others D _ HDK.out (by have := HDE.out; omega) (by have := HDE.out; omega) (fun c fz e => by cases e)
      have HBS := Lib.hid (bstr_any2 hb6' hn6.size)
      have HN6 := Lib.hid hn6
      have HD6 := Lib.hid hD6
      clear hb6 hbw6 hok6 hk6 hb6' hn6 hD6
      gi_wp2_with fail
      refine ⟨trivial, ?_⟩
      refine (callsIn_wide.2 HBS.out).mono ?_
      rintro e w7 ⟨rfl, hbw7, hok7⟩
      have hk7 := QK.of hbw7 hok7
      have hD7 : w7.heap[D]? = some (.deferred (some [])) := hk7.others D _ HD6.out (by have := HDE.out; omega) (by have := HDE.out; omega) (fun c fz e => by cases e)
      have hn7 := QK.old HN6.out hk7
      have HN7 := Lib.hid ((HN1.out.trans hn7).comp (St.put (o' := .deferred none) hD7 rfl rfl).sb fun i hi e => by have := HDE.out; have := HN1.out.size; omega)
      have HD7 := Lib.hid hD7
      clear hbw7 hok7 hk7 hD7 hn7
      gi_wp2_with fail
      refine ⟨by simp, .inl ⟨_, _, rfl, run_takeDeferred HD7.out, ?_⟩⟩
      refine ⟨.tuple #[.string ⟨(quoteS s).toArray⟩, .int .i64 0], ?_, by rw [HQ.out, HCQ.out], HN7.out⟩
      simp [results, Tryz.results183, go_sem]
theorem quote_any {w : World} (hL : LibQ w) {s : ByteArray} (hs : s.size ≤ 10000000) : Calls Tryz.prog 144 #[.string s] w fun e w' => e = .returned (.string (quoteA s)) ∧ Nw w w' := by
  have hq := utfQuote_any hL hs
  have HQ := Lib.hid hq
  clear hq hL hs
  go_enter Tryz.func144, Tryz.ntmps144
  go_wp2_with fail
  refine HQ.out.mono ?_
  rintro e w1 ⟨rfl, hn⟩
  have HN := Lib.hid hn
  clear hn
  go_wp2_with fail
  go_ret
  exact ⟨rfl, HN.out⟩
end Go.Proofs.YtechahocffcbpaaGreatDoor
namespace Go.Proofs.YtechahocffcbpaaGreatDoor
open Go.RowKit Go.Maps Go.Shelf
set_option linter.unusedVariables false
set_option linter.unusedSimpArgs false
mutual
/-- How many bytes a value's text has. -/
def lenV : Val → Nat
  | .mk k b i t l ok ov => if k = 2 then lenB b else if k = 3 then (Lib.itoa i).length else if k = 4 then (quoteA t).size else if k = 5 then 2 + lenL l + (l.length - 1) else if k = 6 then 2 + lenM ok ov + (ov.length - 1) else 4
def lenL : List Val → Nat
  | [] => 0
  | d :: r => lenV d + lenL r
def lenM : List ByteArray → List Val → Nat
  | _, [] => 0
  | ks, d :: r => (quoteA (ks.headD ByteArray.empty)).size + 1 + lenV d + lenM ks.tail r
end
theorem lenL_take : ∀ {l : List Val} {j : Nat} {d : Val}, l[j]? = some d → lenL (l.take (j + 1)) = lenL (l.take j) + lenV d
  | [], j, d, h => by simp at h
  | x :: r, 0, d, h => by
    simp at h; subst h
    simp [lenL]
  | x :: r, j + 1, d, h => by
    have h' : r[j]? = some d := by simpa using h
    rw [List.take_succ_cons, List.take_succ_cons, lenL, lenL, lenL_take h', Nat.add_assoc]
theorem lenL_cut (l : List Val) (j : Nat) : lenL (l.take j) ≤ lenL l := by
  induction l generalizing j with
  | nil => simp
  | cons x r ih =>
    cases j with
    | zero => simp [lenL]
    | succ j => rw [List.take_succ_cons, lenL, lenL]; have := ih j; omega
theorem lenM_take : ∀ {ks : List ByteArray} {l : List Val} {j : Nat} {d : Val} {k : ByteArray}, l[j]? = some d → ks[j]? = some k → lenM ks (l.take (j + 1)) = lenM ks (l.take j) + ((quoteA k).size + 1 + lenV d)
  | ks, [], j, d, k, h, _ => by simp at h
  | [], x :: r, j, d, k, h, hk => by simp at hk
  | y :: ks, x :: r, 0, d, k, h, hk => by
    simp at h hk; subst h hk
    simp [lenM]
  | y :: ks, x :: r, j + 1, d, k, h, hk => by
    have h' : r[j]? = some d := by simpa using h
    have hk' : ks[j]? = some k := by simpa using hk
    rw [List.take_succ_cons, List.take_succ_cons, lenM, lenM, List.tail_cons, lenM_take h' hk']; omega
theorem lenM_cut : ∀ (ks : List ByteArray) (l : List Val) (j : Nat), lenM ks (l.take j) ≤ lenM ks l
  | ks, [], j => by simp
  | ks, x :: r, 0 => by simp [lenM]
  | ks, x :: r, j + 1 => by
    rw [List.take_succ_cons, lenM, lenM]; have := lenM_cut ks.tail r j; omega
theorem join_oneG {w : World} {B : Nat} {a b : Value} {m : Nat} (s : ByteArray) (hB : Blk w B 144 (wrC a b m)) (hm : m + s.size ≤ 100000000) :
    Calls Tryz.prog 139 #[.pointer (some ⟨B, 0, none⟩), .slice (some ⟨w.heap.size, 0, none⟩) 1 1] (w.alloc (.cells #[.string s] 9)) fun e w' => (∃ r, e = .returned r) ∧ Blk w' B 144 (wrC a b (m + s.size)) ∧ Sb (fun c => c = B) w w' := by
  have hx : Ext w (w.alloc (.cells #[.string s] 9)) := (Ext.refl w).alloc _ _
  have hl := hB.lt
  have hj := join_any (s := ⟨some ⟨w.heap.size, 0, none⟩, 1⟩) (ks := [s]) (hB.ext hx) (Rd.block (Blk.new w 9 #[.string s]) (by decide) rfl) (fun i hi => by subst hi; exact ⟨by simp, by omega⟩) (by simp [sumS]; omega) (by simp)
  exact hj.mono fun e w' ⟨h1, h2, h3⟩ => ⟨h1, by simpa [sumS] using h2, (Nw.any (Nw.of hx) _).trans h3.sb⟩
theorem join_two {w : World} {B : Nat} {a b : Value} {m : Nat} (s t : ByteArray) (hB : Blk w B 144 (wrC a b m)) (hm : m + s.size + t.size ≤ 100000000) :
    Calls Tryz.prog 139 #[.pointer (some ⟨B, 0, none⟩), .slice (some ⟨w.heap.size, 0, none⟩) 2 2] (w.alloc (.cells #[.string s, .string t] 9)) fun e w' => (∃ r, e = .returned r) ∧ Blk w' B 144 (wrC a b (m + s.size + t.size)) ∧ Sb (fun c => c = B) w w' := by
  have hx : Ext w (w.alloc (.cells #[.string s, .string t] 9)) := (Ext.refl w).alloc _ _
  have hl := hB.lt
  have hj := join_any (s := ⟨some ⟨w.heap.size, 0, none⟩, 2⟩) (ks := [s, t]) (hB.ext hx) (Rd.block (Blk.new w 9 #[.string s, .string t]) (by decide) rfl) (fun i hi => by subst hi; exact ⟨by simp, by omega⟩) (by simp [sumS]; omega) (by simp)
  exact hj.mono fun e w' ⟨h1, h2, h3⟩ => ⟨h1, by simpa [sumS, Nat.add_assoc] using h2, (Nw.any (Nw.of hx) _).trans h3.sb⟩
theorem own2_any {w : World} {V B : Nat} {a b : Value} {n : Int} {m : Nat} {c0 c1 c3 c4 c5 : Value} (hV : Blk w V 34 #[c0, c1, .int .i64 n, c3, c4, c5]) (hB : Blk w B 144 (wrC a b m)) (h0 : -9223372036854775808 ≤ n) (h1 : n ≤ 9223372036854775807) (hm : m + (Lib.itoa n).length ≤ 100000000) (hL : LibQ w) :
    Calls Tryz.prog 141 #[.pointer (some ⟨B, 0, none⟩), .pointer (some ⟨V, 0, none⟩)] w fun e w' => (∃ r, e = .returned r) ∧ Blk w' B 144 (wrC a b (m + (Lib.itoa n).length)) ∧ Sb (fun c => c = B) w w' := by
  have hf := hL.num w (G5.refl w) n h0 h1
  have c2 : w.cell? ⟨V, 2, none⟩ = some (.int .i64 n) := hV.cell 2
  have HF := Lib.hid hf
  have HB := Lib.hid hB
  have HM := Lib.hid hm
  clear hf hV hB hm h0 h1 hL
  go_enter Tryz.func141, Tryz.ntmps141
  go_wp2_with fail
  refine HF.out.mono ?_
  rintro e w1 ⟨rfl, hn1⟩
  have hj := join_oneG (w := w1) ⟨(Lib.itoa n).toArray⟩ (hn1.blk HB.out) (by have := HM.out; simpa [ByteArray.size] using this)
  rw [show (ByteArray.mk (Lib.itoa n).toArray).size = (Lib.itoa n).length by simp [ByteArray.size]] at hj
  have HJ := Lib.hid hj
  have HN := Lib.hid hn1
  clear hj hn1 c2
  go_wp2_with fail
  refine HJ.out.mono ?_
  rintro e w2 ⟨⟨r, rfl⟩, hb1, hs1⟩
  have HB1 := Lib.hid hb1
  have HS1 := Lib.hid ((HN.out.any _).trans hs1)
  clear hb1 hs1
  go_wp2_with fail
  go_end0
  exact ⟨⟨_, rfl⟩, HB1.out, HS1.out⟩
theorem own3_any {w : World} {V B : Nat} {a b : Value} {t : ByteArray} {m : Nat} {c0 c1 c2 c4 c5 : Value} (hV : Blk w V 34 #[c0, c1, c2, .string t, c4, c5]) (hB : Blk w B 144 (wrC a b m)) (ht : t.size ≤ 10000000) (hm : m + (quoteA t).size ≤ 100000000) (hL : LibQ w) :
    Calls Tryz.prog 143 #[.pointer (some ⟨B, 0, none⟩), .pointer (some ⟨V, 0, none⟩)] w fun e w' => (∃ r, e = .returned r) ∧ Blk w' B 144 (wrC a b (m + (quoteA t).size)) ∧ Sb (fun c => c = B) w w' := by
  have hf := quote_any hL ht
  have c2 : w.cell? ⟨V, 3, none⟩ = some (.string t) := hV.cell 3
  have HF := Lib.hid hf
  have HB := Lib.hid hB
  have HM := Lib.hid hm
  clear hf hV hB hm hL ht
  go_enter Tryz.func143, Tryz.ntmps143
  go_wp2_with fail
  refine HF.out.mono ?_
  rintro e w1 ⟨rfl, hn1⟩
  have hj := join_oneG (w := w1) (quoteA t) (hn1.blk HB.out) HM.out
  have HJ := Lib.hid hj
  have HN := Lib.hid hn1
  clear hj hn1 c2
  go_wp2_with fail
  refine HJ.out.mono ?_
  rintro e w2 ⟨⟨r, rfl⟩, hb1, hs1⟩
  have HB1 := Lib.hid hb1
  have HS1 := Lib.hid ((HN.out.any _).trans hs1)
  clear hb1 hs1
  go_wp2_with fail
  go_end0
  exact ⟨⟨_, rfl⟩, HB1.out, HS1.out⟩
def fnO (k : Int) : Nat := if k = 2 then 138 else if k = 3 then 141 else if k = 4 then 143 else if k = 5 then 145 else if k = 6 then 147 else 149
def bsO (k : Int) (V : Nat) : Array Value := if k = 2 ∨ k = 3 ∨ k = 4 ∨ k = 5 ∨ k = 6 then #[.pointer (some ⟨V, 0, none⟩)] else #[]
abbrev valC (d : Val) (sl so : Sl) : Array Value := #[.int .i64 d.kind, .bool d.b, .int .i64 d.i, .string d.t, .slice sl.a d.l.length sl.c, .slice so.a d.ok.length so.c]
theorem own_any (w : World) (d : Val) (sl so : Sl) : Calls Tryz.prog 94 #[aggV d sl so] w fun e w' => e = .returned (.func (.func (fnO d.kind)) #[] (bsO d.kind w.heap.size)) ∧ Ext w w' ∧ Blk w' w.heap.size 34 (valC d sl so) := by
  obtain ⟨k, b, i, t, l, ok, ov⟩ := d
  show Calls _ _ #[.agg #[.int .i64 k, .bool b, .int .i64 i, .string t, .slice sl.a l.length sl.c, .slice so.a ok.length so.c]] _ fun e w' => e = .returned (.func (.func (fnO k)) #[] (bsO k w.heap.size)) ∧ Ext w w' ∧ Blk w' w.heap.size 34 #[.int .i64 k, .bool b, .int .i64 i, .string t, .slice sl.a l.length sl.c, .slice so.a ok.length so.c]
  by_cases h2 : k = 2
  · subst h2
    go_enter Tryz.func94, Tryz.ntmps94
    go_wp2_with fail
    go_ret
    exact ⟨rfl, (Ext.refl w).alloc _ _, Blk.new w _ _⟩
  by_cases h3 : k = 3
  · subst h3
    go_enter Tryz.func94, Tryz.ntmps94
    go_wp2_with fail
    go_ret
    exact ⟨rfl, (Ext.refl w).alloc _ _, Blk.new w _ _⟩
  by_cases h4 : k = 4
  · subst h4
    go_enter Tryz.func94, Tryz.ntmps94
    go_wp2_with fail
    go_ret
    exact ⟨rfl, (Ext.refl w).alloc _ _, Blk.new w _ _⟩
  by_cases h5 : k = 5
  · subst h5
    go_enter Tryz.func94, Tryz.ntmps94
    go_wp2_with fail
    go_ret
    exact ⟨rfl, (Ext.refl w).alloc _ _, Blk.new w _ _⟩
  by_cases h6 : k = 6
  · subst h6
    go_enter Tryz.func94, Tryz.ntmps94
    go_wp2_with fail
    go_ret
    exact ⟨rfl, (Ext.refl w).alloc _ _, Blk.new w _ _⟩
  have g2 : (k == 2) = false := by simpa using h2
  have g3 : (k == 3) = false := by simpa using h3
  have g4 : (k == 4) = false := by simpa using h4
  have g5 : (k == 5) = false := by simpa using h5
  have g6 : (k == 6) = false := by simpa using h6
  have hf : fnO k = 149 := by simp [fnO, h2, h3, h4, h5, h6]
  have hb : bsO k w.heap.size = #[] := by simp [bsO, h2, h3, h4, h5, h6]
  rw [hf, hb]
  clear h2 h3 h4 h5 h6 hf hb
  go_enter Tryz.func94, Tryz.ntmps94
  go_wp2_with fail
  go_ret
  exact ⟨rfl, (Ext.refl w).alloc _ _, Blk.new w _ _⟩
mutual
/-- How much a value counts. -/
def cntV : Val → Nat
  | .mk k b i t l ok ov => 7 + t.size + cntL l + cntM ok ov
def cntL : List Val → Nat
  | [] => 0
  | d :: r => cntV d + cntL r
def cntM : List ByteArray → List Val → Nat
  | _, [] => 0
  | ks, d :: r => (ks.headD ByteArray.empty).size + 2 + cntV d + cntM ks.tail r
end
theorem cntL_at : ∀ {l : List Val} {j : Nat} {d : Val}, l[j]? = some d → cntV d ≤ cntL l
  | [], j, d, h => by simp at h
  | x :: r, 0, d, h => by simp at h; subst h; rw [cntL]; omega
  | x :: r, j + 1, d, h => by have := cntL_at (l := r) (j := j) (by simpa using h); rw [cntL]; omega
theorem cntM_at : ∀ {ks : List ByteArray} {l : List Val} {j : Nat} {d : Val} {k : ByteArray}, l[j]? = some d → ks[j]? = some k → cntV d + k.size ≤ cntM ks l
  | ks, [], j, d, k, h, _ => by simp at h
  | [], x :: r, j, d, k, h, hk => by simp at hk
  | y :: ks, x :: r, 0, d, k, h, hk => by simp at h hk; subst h hk; rw [cntM, List.headD_cons]; omega
  | y :: ks, x :: r, j + 1, d, k, h, hk => by have := cntM_at (ks := ks) (l := r) (j := j) (by simpa using h) (by simpa using hk); rw [cntM, List.tail_cons]; omega
theorem quoteA_len (s : ByteArray) : (quoteA s).size ≤ 6 * s.size + 2 := by
  unfold quoteA
  split
  · have := quoteS_len s
    show (quoteS s).toArray.size ≤ _
    rw [List.size_toArray]; exact this
  · show 0 ≤ _; omega
theorem lenB_le (x : Bool) : lenB x ≤ 5 := by rw [lenB_eq]; split <;> omega
mutual
theorem lenV_cnt (F : Nat → Prop) (w : World) : ∀ (d : Val) (sl so : Sl), RV w F d sl so → lenV d + 2 ≤ 6 * cntV d
  | .mk k b i t l ok ov, sl, so, h => by
    unfold lenV cntV
    cases h with
    | mk bl fl bo fo cl co hl ho hov el rl ek eo ro bk bi bt nl no =>
    split
    · have := lenB_le b; omega
    split
    · have := Lib.itoa_length_le i (by simp [Lit.wf, IntKind.min, IntKind.max, IntKind.signed, IntKind.bits] at bi; omega) (by simp [Lit.wf, IntKind.min, IntKind.max, IntKind.signed, IntKind.bits] at bi; omega)
      omega
    split
    · have := quoteA_len t; omega
    split
    · have := lenL_cnt F w l cl (fun j d hj => rl j d hj)
      omega
    split
    · have := lenM_cnt F w ok ov co (fun j d hj => ro j d hj) hov
      omega
    · omega
theorem lenL_cnt (F : Nat → Prop) (w : World) : ∀ (l : List Val) (c : Nat → Sl × Sl), (∀ j d, l[j]? = some d → RV w F d (c j).1 (c j).2) → lenL l + 2 * l.length ≤ 6 * cntL l
  | [], c, h => by simp [lenL, cntL]
  | d :: r, c, h => by
    have h1 := lenV_cnt F w d _ _ (h 0 d rfl)
    have h2 := lenL_cnt F w r (fun j => c (j + 1)) (fun j d hj => h (j + 1) d (by simpa using hj))
    rw [lenL, cntL, List.length_cons]; omega
theorem lenM_cnt (F : Nat → Prop) (w : World) : ∀ (ks : List ByteArray) (l : List Val) (c : Nat → Sl × Sl), (∀ j d, l[j]? = some d → RV w F d (c j).1 (c j).2) → l.length = ks.length → lenM ks l + 2 * l.length ≤ 6 * cntM ks l
  | ks, [], c, h, hl => by simp [lenM, cntM]
  | [], d :: r, c, h, hl => by cases hl
  | k :: ks, d :: r, c, h, hl => by
    have h1 := lenV_cnt F w d _ _ (h 0 d rfl)
    have h2 := lenM_cnt F w ks r (fun j => c (j + 1)) (fun j d hj => h (j + 1) d (by simpa using hj)) (by simpa using hl)
    have h3 := quoteA_len k
    rw [lenM, cntM, List.length_cons, List.headD_cons, List.tail_cons]; omega
end
def comA (j : Nat) : ByteArray := if j = 0 then ByteArray.empty else ⟨#[44]⟩
theorem between_x (w : World) (j : Nat) : Calls Tryz.prog 146 #[.int .i64 (j : Int)] w fun e w' => e = .returned (.string (comA j)) ∧ w' = w := by
  by_cases h : j = 0
  · subst h
    go_enter Tryz.func146, Tryz.ntmps146
    go_wp2_with fail
    go_ret
    exact ⟨rfl, rfl⟩
  · have g0 : ((j : Int) == 0) = false := by simp; omega
    have hc : comA j = ⟨#[44]⟩ := if_neg h
    rw [hc]
    clear hc h
    go_enter Tryz.func146, Tryz.ntmps146
    go_wp2_with fail
    go_ret
    exact ⟨rfl, rfl⟩
theorem comA_len (j : Nat) : (comA j).size = j - (j - 1) := by
  unfold comA
  by_cases h : j = 0
  · subst h; rfl
  · rw [if_neg h]; show 1 = _; omega
def WrPost (B : Nat) (a b : Value) (n : Nat) (d : Val) (w : World) (e : Ending) (w' : World) : Prop :=
  (∃ r, e = .returned r) ∧ Blk w' B 144 (wrC a b (n + lenV d)) ∧ Sb (fun c => c = B) w w'
def WrIH (P : Val → Prop) : Prop := ∀ (d : Val), P d → cntV d ≤ 1100000 → ∀ (w : World) (F : Nat → Prop) (V B : Nat) (sl so : Sl) (a b : Value) (n : Nat), Blk w V 34 (valC d sl so) → RV w F d sl so → (∀ i, F i → i < w.heap.size ∧ i ≠ B) → V ≠ B → Blk w B 144 (wrC a b n) → n + lenV d ≤ 9000000 → LibQ w → 6 ≤ B →
  Calls Tryz.prog (fnO d.kind) (#[.pointer (some ⟨B, 0, none⟩)] ++ bsO d.kind V) w (WrPost B a b n d w)
theorem enters_own (k : Int) : ∀ args w, (callFunc (fnO k) args).run Tryz.prog w = .ok (.enter (fnO k) args) w := by
  unfold fnO
  split
  · exact enters_of Tryz.func138 (by kernel_rfl) rfl
  split
  · exact enters_of Tryz.func141 (by kernel_rfl) rfl
  split
  · exact enters_of Tryz.func143 (by kernel_rfl) rfl
  split
  · exact enters_of Tryz.func145 (by kernel_rfl) rfl
  split
  · exact enters_of Tryz.func147 (by kernel_rfl) rfl
  · exact enters_of Tryz.func149 (by kernel_rfl) rfl
theorem own4_any {P : Val → Prop} (hI : WrIH P) {w : World} {F : Nat → Prop} {V B : Nat} {bo : Bool} {i : Int} {t : ByteArray} {l : List Val} {ok : List ByteArray} {ov : List Val} {sl so : Sl} {a b : Value} {n : Nat}
    (hP : ∀ (j : Nat) (d : Val), l[j]? = some d → P d) (hc : cntL l ≤ 1100000)
    (hV : Blk w V 34 #[.int .i64 5, .bool bo, .int .i64 i, .string t, .slice sl.a l.length sl.c, .slice so.a ok.length so.c]) (h : RV w F (.mk 5 bo i t l ok ov) sl so) (hF : ∀ i, F i → i < w.heap.size ∧ i ≠ B) (hVB : V ≠ B) (hB : Blk w B 144 (wrC a b n)) (hn : n + (2 + lenL l + (l.length - 1)) ≤ 9000000) (hL : LibQ w) (h6 : 6 ≤ B) :
    Calls Tryz.prog 145 #[.pointer (some ⟨B, 0, none⟩), .pointer (some ⟨V, 0, none⟩)] w fun e w' => (∃ r, e = .returned r) ∧ Blk w' B 144 (wrC a b (n + (2 + lenL l + (l.length - 1)))) ∧ Sb (fun c => c = B) w w' := by
  cases h with
  | mk bl fl bo' fo cl co hl ho hov el rl ek eo ro bk bi bt nl no =>
  have hj0 := join_oneG (w := w) ⟨#[91]⟩ hB (by show n + 1 ≤ _; omega)
  have hbt := fun W j => between_x W j
  have HJ0 := Lib.hid hj0
  have HBT := Lib.hid hbt
  have HV := Lib.hid hV
  have HF := Lib.hid hF
  have HEL := Lib.hid el
  have HRL := Lib.hid rl
  have HSL := Lib.hid hl
  have HLQ := Lib.hid hL
  have HI := Lib.hid hI
  have HP := Lib.hid hP
  have HC := Lib.hid hc
  have HN := Lib.hid hn
  have hVl := hV.lt
  have hBl := hB.lt
  have hll : l.length ≤ 2000000000000 := by omega
  clear hj0 hbt hV hB hF el rl ek eo ro hl ho hov hL hI hP hc hn bk bi bt nl no
  go_enter Tryz.func145, Tryz.ntmps145
  go_wp2_with fail
  refine HJ0.out.mono ?_
  rintro e w1 ⟨⟨r, rfl⟩, hb1, hs1⟩
  obtain ⟨q0, q1, q2, q3, q4, q5⟩ := (hs1.blk HV.out hVB).c6
  have HB1 := Lib.hid hb1
  have HS1 := Lib.hid hs1
  clear hb1 hs1 HJ0
  go_wp2_with fail
  go_loopw [11] (fun q wr => ∃ (j : Nat), q = .int .i64 j ∧ j ≤ l.length ∧ Blk wr B 144 (wrC a b (n + 1 + (lenL (l.take j) + (j - 1)))) ∧ Sb (fun c => c = B) w wr) (fun q _ => l.length - (intOf q).toNat)
  case atStart => exact ⟨0, rfl, Nat.zero_le _, HB1.out, HS1.out⟩
  case round =>
    obtain ⟨j, rfl, hj, hb, hs⟩ := hrel
    by_cases h1 : j < l.length
    · have g1 : (j : Int) < (l.length : Int) := by omega
      have g1' : decide ((j : Int) < (l.length : Int)) = true := decide_eq_true g1
      obtain ⟨d, hd⟩ : ∃ d, l[j]? = some d := ⟨_, List.getElem?_eq_getElem h1⟩
      obtain ⟨hsa, hlc, hcm⟩ := HSL.out.eq (by omega)
      have hbl := HF.out bl (HSL.out.fits (by omega))
      have hag : Agree F w wr := fun x hx => hs.block x (HF.out x hx).1 (HF.out x hx).2
      have hbF := HSL.out.fits (show 0 < l.length by omega)
      obtain ⟨sa, sc⟩ := sl
      dsimp only at hsa hlc hcm
      subst hsa
      obtain ⟨v0, v1, v2, v3, v4, v5⟩ := (HEL.out j d hd).agree hag hbF
      have lb : bl < wr.heap.size := Nat.lt_of_lt_of_le hbl.1 hs.size
      have hcut := lenL_cut l (j + 1)
      have htk := lenL_take hd
      have hcom := comA_len j
      have hlenN : n + 1 + (lenL (l.take j) + (j - 1)) + (comA j).size + lenV d ≤ 9000000 := by have := HN.out; omega
      have hcd : cntV d ≤ 1100000 := Nat.le_trans (cntL_at hd) HC.out
      have HD := Lib.hid hd
      have HB := Lib.hid hb
      have HS := Lib.hid hs
      have HLN := Lib.hid hlenN
      have HTK := Lib.hid htk
      have HCM := Lib.hid hcom
      have HCD := Lib.hid hcd
      have HPD := Lib.hid (HP.out j d hd)
      have hen := enters_own d.kind
      clear hb hs hag hbl hcut htk hcom hlenN hcd hd
      go_wp2_with fail
      refine (HBT.out _ j).mono ?_
      rintro e w2 ⟨rfl, hw2⟩
      have hx2 : Ext wr w2 := by rw [hw2]; exact (Ext.refl wr).alloc _ _
      have hb2 : Blk w2 wr.heap.size 34 (valC d (cl j).1 (cl j).2) := by rw [hw2]; exact Blk.new wr 34 _
      clear hw2
      have hj2 := join_oneG (w := w2) (comA j) (HB.out.ext hx2) (by have := HLN.out; omega)
      have HJ2 := Lib.hid hj2
      have HIB := Lib.hid hb2
      have HS2 := Lib.hid (HS.out.ext hx2)
      have hlr := HB.out.lt
      clear hx2 hb2 hj2
      go_wp2_with fail
      refine HJ2.out.mono ?_
      rintro e w3 ⟨⟨r2, rfl⟩, hb3, hs3⟩
      have hi3 := hs3.blk HIB.out (by omega)
      obtain ⟨u0, u1, u2, u3, u4, u5⟩ := hi3.c6
      have HB3 := Lib.hid hb3
      have HS3 := Lib.hid (HS2.out.trans hs3)
      clear hb3 hs3 hi3 HJ2 v0 v1 v2 v3 v4 v5
      go_wp2_with fail
      refine (own_any _ d (cl j).1 (cl j).2).mono ?_
      rintro e w4 ⟨rfl, hx4, hbv⟩
      have hs4 := HS3.out.ext hx4
      have hag4 : Agree F w w4 := fun x hx => hs4.block x (HF.out x hx).1 (HF.out x hx).2
      have hcall := HI.out d HPD.out HCD.out w4 F w3.heap.size B (cl j).1 (cl j).2 a b (n + 1 + (lenL (l.take j) + (j - 1)) + (comA j).size) hbv ((HRL.out j d HD.out).agree hag4) (fun i hi => ⟨Nat.lt_of_lt_of_le (HF.out i hi).1 hs4.size, (HF.out i hi).2⟩) (by have := HB3.out.lt; omega) (HB3.out.ext hx4) HLN.out
        (HLQ.out.sb hs4 fun c hc e => by have e : c = B := e; omega) h6
      have HCALL := Lib.hid hcall
      have HS4 := Lib.hid hs4
      clear hx4 hbv hs4 hag4 hcall u0 u1 u2 u3 u4 u5
      go_wp2_with fail
      refine HCALL.out.mono ?_
      rintro e w5 ⟨⟨r3, rfl⟩, hb5, hs5⟩
      have HB5 := Lib.hid hb5
      have HS5 := Lib.hid (HS4.out.trans hs5)
      clear hb5 hs5
      go_wp2_with fail
      go_roundw
      case rel => exact ⟨j + 1, by go_num, h1, by rw [show n + 1 + (lenL (l.take (j + 1)) + (j + 1 - 1)) = n + 1 + (lenL (l.take j) + (j - 1)) + (comA j).size + lenV d by rw [HTK.out, HCM.out]; omega]; exact HB5.out, HS5.out⟩
      case measure => simp [intOf]; omega
    · obtain rfl : j = l.length := by omega
      rw [List.take_length] at hb
      have hj1 := join_oneG (w := wr) ⟨#[93]⟩ hb (by have := HN.out; show _ + 1 ≤ _; omega)
      have HJ1 := Lib.hid hj1
      have HS := Lib.hid hs
      have g1 : decide ((l.length : Int) < (l.length : Int)) = false := decide_eq_false (by omega)
      clear hj1 hb hs
      go_wp2_with fail
      refine HJ1.out.mono ?_
      rintro e w3 ⟨⟨r2, rfl⟩, hb3, hs3⟩
      have HB3 := Lib.hid hb3
      have HS3 := Lib.hid (HS.out.trans hs3)
      clear hb3 hs3 HJ1
      go_wp2_with fail
      go_end0
      exact ⟨⟨_, rfl⟩, by rw [show n + (2 + lenL l + (l.length - 1)) = n + 1 + (lenL l + (l.length - 1)) + 1 by omega]; exact HB3.out, HS3.out⟩
attribute [local go_sem] Oper.semAt_some
theorem mems_any (w : World) (a : Option Addr) (n c : Nat) : Calls Tryz.prog 148 #[.slice a n c] w fun e w' => e = .returned (.func (.func 184) #[] #[.pointer (some ⟨w.heap.size, 0, none⟩)]) ∧ Ext w w' ∧ Blk w' w.heap.size 32 #[.slice a n c] := by
  go_enter Tryz.func148, Tryz.ntmps148
  go_wp2_with fail
  go_ret
  exact ⟨rfl, (Ext.refl w).alloc _ _, Blk.new w _ _⟩
structure ME where
  t : ByteArray
  d : Val
  V : Nat
  sl : Sl
  so : Sl
abbrev encM (x : ME) : Array Value := #[.string x.t, .func (.func (fnO x.d.kind)) #[] (bsO x.d.kind x.V)]
def MDone (ok : List ByteArray) (xs : List ME) : Prop := xs.length = ok.length
structure MG (F : Nat → Prop) (ok : List ByteArray) (ov : List Val) (pre : List ME) (x : ME) (W0 W1 : World) : Prop where
  ex : ∃ k, ok[pre.length]? = some k ∧ ov[pre.length]? = some x.d ∧ x.t = comA pre.length ++ quoteA k
  blk : Blk W1 x.V 34 (valC x.d x.sl x.so)
  val : RV W1 F x.d x.sl x.so
  new : W0.heap.size ≤ x.V
structure MS (J : List ME → World → Prop) (K : Nat → Prop) (W : World) (j : Nat) (pre : List ME) (Wj wr : World) : Prop where
  inv : J pre Wj
  nw : Nw Wj wr
  len : pre.length = j
  ag : Agree K W wr
  sz : W.heap.size ≤ wr.heap.size
structure MOk (w : World) (F : Nat → Prop) (so : Sl) (ok : List ByteArray) (ov : List Val) : Prop where
  ex : ∃ (bo fo : Nat) (co : Nat → Sl × Sl), SlAt F so ok.length bo fo ∧ RO w F bo fo ok ov co
  len : ov.length = ok.length
  few : ∀ k ∈ ok, k.size ≤ 10000000
theorem MOk.agree {w w' : World} {F : Nat → Prop} {so : Sl} {ok : List ByteArray} {ov : List Val} (h : MOk w F so ok ov) (ha : Agree F w w') : MOk w' F so ok ov := by
  obtain ⟨⟨bo, fo, co, h1, h2⟩, h3, h4⟩ := h
  exact ⟨⟨bo, fo, co, h1, h2.agree ha h3 (fun h => h1.fits h)⟩, h3, h4⟩
theorem MOk.at {w : World} {F : Nat → Prop} {so : Sl} {ok : List ByteArray} {ov : List Val} (h : MOk w F so ok ov) {j : Nat} (hj : j < ok.length) :
    ∃ (b o : Nat) (k : ByteArray) (d : Val) (sl2 so2 : Sl), so.a = some ⟨b, o, none⟩ ∧ F b ∧ ok.length ≤ so.c ∧ so.c ≤ maxLen ∧ ok[j]? = some k ∧ ov[j]? = some d ∧ w.cell? ⟨b, o + j * 7, none⟩ = some (.string k) ∧ VCells w b (o + j * 7 + 1) d sl2 so2 ∧ RV w F d sl2 so2 ∧ k.size ≤ 10000000 := by
  obtain ⟨⟨b, o, co, h1, h2⟩, h3, h4⟩ := h
  obtain ⟨e1, e2, e3⟩ := h1.eq (by omega)
  have hk := List.getElem?_eq_getElem hj
  have hd := List.getElem?_eq_getElem (l := ov) (i := j) (by omega)
  exact ⟨b, o, _, _, _, _, e1, h1.fits (by omega), e2, e3, hk, hd, (h2.keys j _ hk).1, h2.cells j _ hd, h2.reads j _ hd, h4 _ (List.mem_of_getElem? hk)⟩
theorem mg_of {J : List ME → World → Prop} {F K : Nat → Prop} {ok : List ByteArray} {ov : List Val} {W Wj wr w4 w5 : World} {j : Nat} {pre : List ME} {k : ByteArray} {d : Val} {sl so : Sl} (h : MS J K W j pre Wj wr) (hk : ok[j]? = some k ∧ ov[j]? = some d) (hb : Blk w5 w4.heap.size 34 (valC d sl so)) (hr : RV wr F d sl so) (hn : Nw wr w5) (hF : ∀ b, F b → b < wr.heap.size) (hz : wr.heap.size ≤ w4.heap.size) :
    MG F ok ov pre ⟨comA j ++ quoteA k, d, w4.heap.size, sl, so⟩ Wj w5 :=
  ⟨⟨k, by rw [h.len]; exact hk.1, by rw [h.len]; exact hk.2, by rw [h.len]⟩, hb, hr.agree (hn.agree hF), Nat.le_trans h.nw.size hz⟩
def MRes (J Jx : List ME → World → Prop) (K : Nat → Prop) (W : World) (j : Nat) (xs : List ME) (bb : Bool) (w' : World) : Prop := (bb = true ∧ MS J K W (j + 1) xs w' w') ∨ (bb = false ∧ Jx xs w')
theorem mres_of {J Jx : List ME → World → Prop} {K : Nat → Prop} {W Wj wr w5 : World} {j : Nat} {pre : List ME} {x : ME} (h : MS J K W j pre Wj wr) (k : Nw wr w5) (hK : ∀ b, K b → b < W.heap.size) (e : Ending) (w' : World)
    (hp : (e = .returned (.bool true) ∧ J (pre ++ [x]) w' ∧ Agree K w5 w' ∧ w5.heap.size ≤ w'.heap.size) ∨ (e = .returned (.bool false) ∧ Jx (pre ++ [x]) w')) : ∃ bb : Bool, e = .returned (.bool bb) ∧ Hid (MRes J Jx K W j (pre ++ [x]) bb w') := by
  rcases hp with ⟨rfl, h1, h2, h3⟩ | ⟨rfl, h1⟩
  · exact ⟨true, rfl, Lib.hid (.inl ⟨rfl, h1, Sb.refl _ _, by simp [h.len], (h.ag.trans (k.agree fun b hb => Nat.lt_of_lt_of_le (hK b hb) h.sz)).trans h2, Nat.le_trans (Nat.le_trans h.sz k.size) h3⟩)⟩
  · exact ⟨false, rfl, Lib.hid (.inr ⟨rfl, h1⟩)⟩
theorem mems_seq {w0 : World} {Bx : Nat} {F : Nat → Prop} {so : Sl} {ok : List ByteArray} {ov : List Val} (hB : Blk w0 Bx 32 #[.slice so.a ok.length so.c]) (hM : MOk w0 F so ok ov) (hF : ∀ b, F b → b < w0.heap.size) (hL : LibQ w0) (hn : ok.length ≤ 100000000) :
    SeqP Tryz.prog 184 #[.pointer (some ⟨Bx, 0, none⟩)] encM (fun b => F b ∨ b = Bx ∨ b < 6) (MG F ok ov) (MDone ok) (fun _ => True) w0 := by
  intro l J Jx W hTk hA hsz hJ
  have h6 := hL.lib.big
  have hlB := hB.lt
  have hKW : ∀ b, (F b ∨ b = Bx ∨ b < 6) → b < W.heap.size := fun b hb => by
    rcases hb with hb | rfl | hb
    · have := hF b hb; omega
    · omega
    · omega
  have hss : ∀ W1, Agree (fun b => F b ∨ b = Bx ∨ b < 6) W W1 → W.heap.size ≤ W1.heap.size → Blk W1 Bx 32 #[.slice so.a ok.length so.c] ∧ MOk W1 F so ok ov ∧ LibQ W1 := fun W1 hW hz => by
    have ha : Agree (fun b => F b ∨ b = Bx ∨ b < 6) w0 W1 := hA.trans hW
    refine ⟨(ha Bx (.inr (.inl rfl))).trans hB, hM.agree (ha.mono fun b hb => .inl hb), ?_⟩
    have hg : G5 w0 W1 := fun b hb => ha b (.inr (.inr hb))
    exact ⟨⟨by omega, fun W2 hW2 => hL.lib.fmt W2 (hg.trans hW2), fun W2 hW2 => hL.lib.val W2 (hg.trans hW2)⟩, fun W2 hW2 => hL.dec W2 (hg.trans hW2), fun W2 hW2 => hL.num W2 (hg.trans hW2)⟩
  have HTK := Lib.hid hTk
  have HSS := Lib.hid hss
  have HJ := Lib.hid hJ
  have HKW := Lib.hid hKW
  have hnl : (ok.length : Int) ≤ 100000000 := by omega
  have c0 : W.cell? ⟨Bx, 0, none⟩ = some (.slice so.a ok.length so.c) := (hss W (Agree.refl _) (Nat.le_refl _)).1.cell 0
  have lB : Bx < W.heap.size := by omega
  clear hTk hA hJ hB hss hL h6 hlB hsz hKW hM hF
  show Calls _ _ #[.func (.yield l) #[] #[], .pointer (some ⟨Bx, 0, none⟩)] W _
  refine (callsIn_wide (n := 5)).1 ?_
  refine callsIn_of_wp Tryz.func184 rfl trivial ?_ rfl
  simp only [Tryz.ntmps184, List.size_toArray, List.length_cons, List.length_nil, Nat.reduceAdd, Nat.reduceSub, Array.replicate_succ, Array.replicate_zero, List.push_toArray, List.append_toArray, List.nil_append, List.cons_append]
  gi_wp2_with fail
  clear c0
  gi_loopw [7] (fun v wr => ∃ (j : Nat) (pre : List ME) (Wj : World), v = .int .i64 (j : Int) ∧ j ≤ ok.length ∧ Hid (MS J (fun b => F b ∨ b = Bx ∨ b < 6) W j pre Wj wr)) (fun v _ => ok.length - (intOf v).toNat)
  case atStart => exact ⟨0, [], W, rfl, Nat.zero_le _, Lib.hid ⟨HJ.out, Sb.refl _ _, rfl, Agree.refl _, Nat.le_refl _⟩⟩
  case round =>
    obtain ⟨j, pre, Wj, rfl, hj, HS⟩ := hrel
    obtain ⟨-, hm, hlq⟩ := HSS.out wr HS.out.ag HS.out.sz
    by_cases hlt : j < ok.length
    · obtain ⟨bo, fo, k, d, sl2, so2, hsa, hbF, hlc, hcm, hk, hd, kc, hvc, hrv, hks⟩ := hm.at hlt
      have hbo : bo < wr.heap.size := Nat.lt_of_lt_of_le (HKW.out bo (.inl hbF)) HS.out.sz
      obtain ⟨sa, sc⟩ := so
      dsimp only at hsa hlc hcm
      subst hsa
      obtain ⟨v0, v1, v2, v3, v4, v5⟩ := hvc.m
      have g1 : (j : Int) < (ok.length : Int) := by omega
      have g1' : decide ((j : Int) < (ok.length : Int)) = true := decide_eq_true g1
      have HKF := Lib.hid (fun (b : Nat) (hb : F b) => Nat.lt_of_lt_of_le (HKW.out b (.inl hb)) HS.out.sz)
      have HLQ := Lib.hid hlq
      have HRV := Lib.hid hrv
      have HK := Lib.hid (And.intro hk hd)
      have HKS := Lib.hid hks
      clear hm hlq hvc hrv hk hd hks
      gi_wp2_with fail
      generalize hW3 : wr.alloc _ = W3
      have hx3 : Ext wr W3 := by rw [← hW3]; exact (Ext.refl wr).alloc _ _
      have hb3 : Blk W3 wr.heap.size 115 #[.string k, .int .i64 d.kind, .bool d.b, .int .i64 d.i, .string d.t, .slice sl2.a d.l.length sl2.c, .slice so2.a d.ok.length so2.c] := by rw [← hW3]; exact Blk.new wr _ _
      obtain ⟨q0, q1, q2, q3, q4, q5, q6⟩ := hb3.c7
      have lq := hb3.lt
      have hq : Calls Tryz.prog 144 #[.string k] W3.drew fun e w' => e = .returned (.string (quoteA k)) ∧ Nw W3.drew w' := quote_any (HLQ.out.nw (Nw.of (hx3.drew))) HKS.out
      have hcl := comA_len j
      have hql := quoteA_len k
      have hks' := HKS.out
      have hcat : ∀ W : World, (Op.stringOp .add (comA j) (quoteA k)).run Tryz.prog W = .ok (.string (comA j ++ quoteA k)) W := fun W => run_string_add_sum (w := W) _ _ (by omega)
      clear hcl hql hks'
      have HQ := Lib.hid hq
      have HB3 := Lib.hid hb3
      have HX3 := Lib.hid hx3
      clear hW3 hq hb3 hx3 v0 v1 v2 v3 v4 v5 kc
      gi_region_with (first
        | (refine ⟨trivial, ?_⟩; refine (callsIn_wide.2 (between_x _ j)).mono ?_; rintro e w4 ⟨rfl, rfl⟩)
        | (refine ⟨trivial, ?_⟩; refine (callsIn_wide.2 HQ.out).mono ?_; rintro e w4 ⟨rfl, hn4⟩; have HN4 := Lib.hid hn4; obtain ⟨p0, p1, p2, p3, p4, p5, p6⟩ := (hn4.blk (show Blk W3.drew _ _ _ from HB3.out)).c7; have lp := (hn4.blk (show Blk W3.drew _ _ _ from HB3.out)).lt; clear hn4)
        | (refine ⟨trivial, ?_⟩; refine (callsIn_wide.2 (own_any _ d sl2 so2)).mono ?_; rintro e w5 ⟨rfl, hx5, hb5⟩; have hn5 := ((Nw.of HX3.out.drew).trans HN4.out).trans (Nw.of hx5); have hy := HTK.out pre ⟨comA j ++ quoteA k, d, w4.heap.size, sl2, so2⟩ Wj w5 HS.out.inv (HS.out.nw.trans hn5) (mg_of HS.out HK.out hb5 HRV.out hn5 HKF.out (Nat.le_trans HX3.out.size HN4.out.size)); have HH := Lib.hid (mres_of (Jx := Jx) (x := ⟨comA j ++ quoteA k, d, w4.heap.size, sl2, so2⟩) HS.out hn5 HKW.out); obtain ⟨fn, tmps, assign, body, hy, hR⟩ := hy; have HR := Lib.hid hR; dsimp only [encM] at hy; clear hR hx5 hb5 hn5)
        | (refine HR.out.mono ?_; intro e w6 h6; obtain ⟨bb, rfl, H7⟩ := HH.out e w6 h6; clear h6))
      all_goals
        clear p0 p1 p2 p3 p4 p5 p6 q0 q1 q2 q3 q4 q5 q6 hcat HQ HB3 hy HR HH
        rcases H7.out with ⟨rfl, hms⟩ | ⟨rfl, hjx⟩
        · have HMS := Lib.hid hms
          clear hms H7
          gi_wp2_with fail
          go_roundw
          case rel => exact ⟨j + 1, _, w6, by go_num, hlt, HMS⟩
          case measure => simp [intOf]; omega
        · have HJX := Lib.hid hjx
          clear hjx H7
          gi_wp2_with fail
          refine bodyPost_ret (v := .tuple #[]) (by simp [results, Tryz.results184, go_sem]) rfl ?_
          exact ⟨⟨_, rfl⟩, .inr ⟨_, w6, trivial, HJX.out, Sb.refl _ _⟩⟩
    · obtain rfl : j = ok.length := by omega
      have g1 : decide ((ok.length : Int) < (ok.length : Int)) = false := decide_eq_false (by omega)
      have HE := Lib.hid (show MDone ok pre from HS.out.len)
      clear hm hlq
      gi_wp2_with fail
      go_end0
      exact ⟨⟨_, rfl⟩, .inl ⟨pre, Wj, HE.out, HS.out.inv, HS.out.nw⟩⟩
end Go.Proofs.YtechahocffcbpaaGreatDoor
namespace Go.Proofs.YtechahocffcbpaaGreatDoor
open Go.RowKit Go.Maps Go.Shelf
set_option linter.unusedVariables false
set_option linter.unusedSimpArgs false
attribute [local go_sem] Oper.semAt_some
structure OI (w : World) (B : Nat) (a b : Value) (n : Nat) (ok : List ByteArray) (ov : List Val) (pre : List ME) (W : World) : Prop where
  blk : Blk W B 144 (wrC a b (n + 1 + (lenM ok (ov.take pre.length) + (pre.length - 1))))
  sb : Sb (fun c => c = B) w W
  box : Blk W w.heap.size 147 #[.pointer (some ⟨B, 0, none⟩)]
theorem OI.nw {w W W' : World} {B : Nat} {a b : Value} {n : Nat} {ok : List ByteArray} {ov : List Val} {pre : List ME} (h : OI w B a b n ok ov pre W) (k : Nw W W') : OI w B a b n ok ov pre W' := ⟨k.blk h.blk, h.sb.trans (k.any _), k.blk h.box⟩
theorem OI.turn {w W W' : World} {B x : Nat} {a b : Value} {n : Nat} {ok : List ByteArray} {ov : List Val} {pre : List ME} (h : OI w B a b n ok ov pre W) (k : Sb (fun i => i = x) W W') (hx : w.heap.size < x) (hB : B < w.heap.size) : OI w B a b n ok ov pre W' :=
  ⟨k.blk h.blk (by omega), h.sb.comp k (fun i hi e => by have e : i = x := e; omega), k.blk h.box (by omega)⟩
theorem lenM_few : ∀ (ks : List ByteArray) (l : List Val), l.length = ks.length → ks.length ≤ cntM ks l
  | [], _, _ => Nat.zero_le _
  | k :: ks, [], h => by cases h
  | k :: ks, d :: r, h => by
    have := lenM_few ks r (by simpa using h)
    rw [cntM, List.tail_cons, List.length_cons]; omega
theorem lenM_short {ks : List ByteArray} {l : List Val} : lenM ks (l.take 0) = 0 := by cases ks <;> simp [lenM]
theorem own5_any {P : Val → Prop} (hI : WrIH P) {w : World} {F : Nat → Prop} {V B : Nat} {bo : Bool} {i : Int} {t : ByteArray} {l : List Val} {ok : List ByteArray} {ov : List Val} {sl so : Sl} {a b : Value} {n : Nat}
    (hP : ∀ (j : Nat) (d : Val), ov[j]? = some d → P d) (hc : cntM ok ov ≤ 1100000)
    (hV : Blk w V 34 #[.int .i64 6, .bool bo, .int .i64 i, .string t, .slice sl.a l.length sl.c, .slice so.a ok.length so.c]) (h : RV w F (.mk 6 bo i t l ok ov) sl so) (hF : ∀ i, F i → i < w.heap.size ∧ i ≠ B) (hVB : V ≠ B) (hB : Blk w B 144 (wrC a b n)) (hn : n + (2 + lenM ok ov + (ov.length - 1)) ≤ 9000000) (hL : LibQ w) (h6 : 6 ≤ B) :
    Calls Tryz.prog 147 #[.pointer (some ⟨B, 0, none⟩), .pointer (some ⟨V, 0, none⟩)] w fun e w' => (∃ r, e = .returned r) ∧ Blk w' B 144 (wrC a b (n + (2 + lenM ok ov + (ov.length - 1)))) ∧ Sb (fun c => c = B) w w' := by
  cases h with
  | mk bl fl bo' fo cl co hl ho hov el rl ek eo ro bk bi bt nl no =>
  have hmok : MOk w F so ok ov := ⟨⟨bo', fo, co, ho, ek, eo, ro⟩, hov, fun k hk => by
    obtain ⟨j, hj⟩ := List.mem_iff_getElem?.1 hk
    have hjl := (List.getElem?_eq_some_iff.1 hj).1
    have := cntM_at (List.getElem?_eq_getElem (l := ov) (i := j) (by omega)) hj
    omega⟩
  have hcnt : ok.length ≤ 1100000 := by
    have := lenM_few ok ov hov
    omega
  have hVl := hV.lt
  have hBl := hB.lt
  have HMOK := Lib.hid hmok
  have HV := Lib.hid hV
  have HF := Lib.hid hF
  have HB := Lib.hid hB
  have HLQ := Lib.hid hL
  have HI := Lib.hid hI
  have HP := Lib.hid hP
  have HC := Lib.hid hc
  have HN := Lib.hid hn
  have HOV := Lib.hid hov
  clear hmok hV hF hB hL hI hP hc hn el rl ek eo ro hl ho bk bi bt nl no hov
  refine (callsIn_wide (n := 6)).1 ?_
  refine callsIn_of_wp_marks Tryz.func147 rfl trivial ?_ rfl
  simp only [Tryz.ntmps147, List.size_toArray, List.length_cons, List.length_nil, Nat.reduceAdd, Nat.reduceSub, Array.replicate_succ, Array.replicate_zero, List.push_toArray, List.append_toArray, List.nil_append, List.cons_append]
  gi_wp2_with fail
  generalize hW0 : w.alloc (.cells #[.pointer (some ⟨B, 0, none⟩)] _) = W0
  have hx0 : Ext w W0 := by rw [← hW0]; exact (Ext.refl w).alloc _ _
  have hz0 : W0.heap.size = w.heap.size + 1 := by rw [← hW0]; simp
  have hb0 : Blk W0 w.heap.size 147 #[.pointer (some ⟨B, 0, none⟩)] := by rw [← hW0]; exact Blk.new w _ _
  have hj0 := join_oneG (w := W0) ⟨#[123]⟩ (HB.out.ext hx0) (by have := HN.out; show n + 1 ≤ _; omega)
  rw [hz0] at hj0
  have HJ0 := Lib.hid hj0
  have HX0 := Lib.hid hx0
  have HB0 := Lib.hid hb0
  clear hW0 hj0 hx0 hb0
  refine ⟨trivial, ?_⟩
  refine (callsIn_wide.2 HJ0.out).mono ?_
  rintro e w1 ⟨⟨r, rfl⟩, hb1, hs1⟩
  have hs01 := (HX0.out.sb (fun c => c = B)).trans hs1
  obtain ⟨q0, q1, q2, q3, q4, q5⟩ := (hs01.blk HV.out hVB).c6
  have lq := (hs01.blk HV.out hVB).lt
  have hbb1 := hs1.blk HB0.out (by omega)
  have HB1 := Lib.hid hb1
  have HS1 := Lib.hid hs01
  have HBB1 := Lib.hid hbb1
  have hz1 := hs1.size
  clear hb1 hs1 hs01 hbb1 HJ0
  gi_wp2_with fail
  refine ⟨trivial, ?_⟩
  refine (callsIn_wide.2 (mems_any w1 so.a ok.length so.c)).mono ?_
  rintro e w2 ⟨rfl, hx2, hb2⟩
  have hs2 := HS1.out.ext hx2
  have hag2 : Agree F w w2 := fun x hx => hs2.block x (HF.out x hx).1 (HF.out x hx).2
  have hL2 : LibQ w2 := HLQ.out.sb hs2 fun c hc e => by have e : c = B := e; omega
  have hF2 : ∀ b, F b → b < w2.heap.size := fun b hb => Nat.lt_of_lt_of_le (HF.out b hb).1 hs2.size
  have hoi2 : OI w B a b n ok ov [] w2 := ⟨by have := HB1.out.ext hx2; rw [show ([] : List ME).length = 0 from rfl, lenM_short]; exact this, hs2, HBB1.out.ext hx2⟩
  have hz2 := hx2.size
  have hlb2 := hb2.lt
  have h26 := hL2.lib.big
  have HSQ := Lib.hid (mems_seq hb2 (HMOK.out.agree hag2) hF2 hL2 (by omega))
  have HOI2 := Lib.hid hoi2
  have HF2 := Lib.hid hF2
  clear hx2 hb2 hs2 hag2 hL2 hF2 hoi2 q0 q1 q2 q3 q4 q5
  gi_wp2_with fail
  refine wpIn_rangeP (gf := 184) (lb := #[.pointer (some ⟨w1.heap.size, 0, none⟩)]) rfl (enters_of Tryz.func184 (by kernel_rfl) rfl) HSQ.out (Agree.refl _) (Nat.le_refl _)
    (fun b hb => by
      rcases hb with hb | rfl | hb
      · exact HF2.out b hb
      · omega
      · omega) (fun _ => rfl) (OI w B a b n ok ov) (fun _ _ _ => False)
    (fun h k hl hl' => h.turn k (by omega) hBl) (fun h _ _ _ => h) (fun W hW hz => HOI2.out.nw (Nw.of hW)) ?round ?done ?stop
  case stop =>
    rintro D c pre W hD hSp hX hDk
    exact hX.elim
  case round =>
    rintro pre x W0' W1 hI hsz hn01 hG
    obtain ⟨tx, d, Vx, sl2, so2⟩ := x
    obtain ⟨⟨k, hk, hd, htx⟩, hbk, hrv, hnew⟩ := hG
    dsimp only at hd htx hbk hrv hnew
    have hjl := (List.getElem?_eq_some_iff.1 hk).1
    have HII := Lib.hid (hI.nw hn01)
    have hcut := lenM_cut ok ov (pre.length + 1)
    have htk := lenM_take hd hk
    have hcom := comA_len pre.length
    have htl : tx.size = (comA pre.length).size + (quoteA k).size := by rw [htx, ByteArray.size_append]
    have hovl := HOV.out
    have hnn := HN.out
    have hsum : n + 1 + (lenM ok (ov.take pre.length) + (pre.length - 1)) + tx.size + 1 + lenV d ≤ 9000000 := by omega
    have hsum2 : n + 1 + (lenM ok (ov.take (pre.length + 1)) + (pre.length + 1 - 1)) = n + 1 + (lenM ok (ov.take pre.length) + (pre.length - 1)) + tx.size + 1 + lenV d := by omega
    have hcd : cntV d ≤ 1100000 := by have := cntM_at hd hk; have := HC.out; omega
    have HPD := Lib.hid (HP.out _ d hd)
    have HCD := Lib.hid hcd
    have HSUM := Lib.hid hsum
    have HSUM2 := Lib.hid hsum2
    have HBK := Lib.hid hbk
    have HRV := Lib.hid hrv
    have hz01 := hn01.size
    have lbk := hbk.lt
    have hen := enters_own d.kind
    clear hI hn01 hk hd htx hbk hrv hcut htk hcom htl hovl hnn hsum hsum2 hcd hjl
    gi_wp2_with fail
    refine ⟨Sb.refl _ _, fun W3 k3 hl1 hl3 hd3 => ?_⟩
    have hi3 := HII.out.turn k3 (by omega) hBl
    have p0 : W3.cell? ⟨w.heap.size, 0, none⟩ = some (.pointer (some ⟨B, 0, none⟩)) := hi3.box.cell 0
    have lp := hi3.box.lt
    have hz3 := k3.size
    have hbk3 := k3.blk HBK.out (by omega)
    have hrv3 : RV W3 F d sl2 so2 := HRV.out.agree fun b hb => k3.block b (by have := HF2.out b hb; omega) (fun e => by have e : b = _ := e; have := HF2.out b hb; omega)
    have hj3 := join_two (w := W3) tx ⟨#[58]⟩ hi3.blk (by have := HSUM.out; show _ + 1 ≤ _; omega)
    have HI3 := Lib.hid hi3
    have HBK3 := Lib.hid hbk3
    have HRV3 := Lib.hid hrv3
    have HJ3 := Lib.hid hj3
    have HL3 := Lib.hid hl3
    have HD3 := Lib.hid hd3
    clear k3 hl1 hl3 hd3 hi3 hbk3 hrv3 hj3 HII HBK HRV
    gi_wp2_with fail
    refine ⟨trivial, ?_⟩
    refine (calls_round HJ3.out).mono ?_
    rintro e w5 ⟨⟨r5, rfl⟩, hb5, hs5⟩
    have p5 : w5.cell? ⟨w.heap.size, 0, none⟩ = some (.pointer (some ⟨B, 0, none⟩)) := (hs5.blk HI3.out.box (by omega)).cell 0
    have lp5 := (hs5.blk HI3.out.box (by omega)).lt
    have hz5 := hs5.size
    have hs05 := HI3.out.sb.trans hs5
    have hcall := HI.out d HPD.out HCD.out w5 F Vx B sl2 so2 a b _ (hs5.blk HBK3.out (by omega)) (HRV3.out.agree fun b hb => hs5.block b (by have := HF2.out b hb; omega) (HF.out b hb).2) (fun i hi => ⟨by have := HF2.out i hi; omega, (HF.out i hi).2⟩) (by omega) hb5 (by have := HSUM.out; exact this) (HLQ.out.sb hs05 fun c hc e => by have e : c = B := e; omega) h6
    have HCALL := Lib.hid hcall
    have HS5 := Lib.hid hs5
    clear hb5 hs5 hs05 hcall p0
    gi_wp2_with fail
    refine ⟨trivial, ?_⟩
    refine (calls_round HCALL.out).mono ?_
    rintro e w6 ⟨⟨r6, rfl⟩, hb6, hs6⟩
    have hs36 := HS5.out.trans hs6
    have HEND := Lib.hid (show OI w B a b n ok ov (pre ++ [⟨tx, d, Vx, sl2, so2⟩]) w6 ∧ Agree (fun b => (F b ∨ b = w1.heap.size ∨ b < 6) ∨ b = w2.heap.size ∨ b = w2.heap.size + 1) W3 w6 ∧ W3.heap.size ≤ w6.heap.size from
      ⟨⟨by rw [List.length_append, show [(⟨tx, d, Vx, sl2, so2⟩ : ME)].length = 1 from rfl, HSUM2.out]; exact hb6, HI3.out.sb.trans hs36, hs36.blk HI3.out.box (by omega)⟩,
        fun b hb => hs36.block b (by
          rcases hb with (hb | rfl | hb) | rfl | rfl
          · have := HF2.out b hb; omega
          all_goals omega) (fun e => by
          have e : b = B := e
          rcases hb with (hb | rfl | hb) | rfl | rfl
          · exact (HF.out b hb).2 e
          all_goals omega), hs36.size⟩)
    clear hb6 hs6 hs36
    gi_wp2_with fail
    exact HEND.out
  case done =>
    rintro D xs W hD hS hI hDk
    have hxs : xs.length = ok.length := hS
    have hblk := hI.blk
    rw [hxs, ← HOV.out, List.take_length] at hblk
    have p0 : W.cell? ⟨w.heap.size, 0, none⟩ = some (.pointer (some ⟨B, 0, none⟩)) := hI.box.cell 0
    have lp := hI.box.lt
    have hj1 := join_oneG (w := W) ⟨#[125]⟩ hblk (by have := HN.out; show _ + 1 ≤ _; omega)
    have HJ1 := Lib.hid hj1
    have HI9 := Lib.hid hI
    have HDK := Lib.hid hDk
    have HDE := Lib.hid hD
    have lD := (Array.getElem?_eq_some_iff.1 hDk).1
    clear hj1 hI hDk hD hS hxs hblk
    gi_wp2_with fail
    refine ⟨trivial, ?_⟩
    refine (callsIn_wide.2 HJ1.out).mono ?_
    rintro e w6 ⟨⟨r6, rfl⟩, hb6, hs6⟩
    have hD6 : w6.heap[D]? = some (.deferred (some [])) := (hs6.block D lD (fun e => by have e : D = B := e; have := HDE.out; omega)).trans HDK.out
    have hst := (St.put (o' := .deferred none) hD6 rfl rfl).sb
    have hfin := hst.blk hb6 (by have := HDE.out; omega)
    have hsf : Sb (fun c => c = B) w _ := (HI9.out.sb.trans hs6).comp hst (fun i hi e => by have e : i = D := e; have := HDE.out; omega)
    have HD6 := Lib.hid hD6
    have HFIN := Lib.hid hfin
    have HSF := Lib.hid hsf
    clear hb6 hs6 hD6 hst hfin hsf
    gi_wp2_with fail
    refine ⟨by simp, .inl ⟨_, _, rfl, run_takeDeferred HD6.out, ?_⟩⟩
    refine ⟨.tuple #[], ?_, ⟨_, rfl⟩, by rw [show n + (2 + lenM ok ov + (ov.length - 1)) = n + 1 + (lenM ok ov + (ov.length - 1)) + 1 by omega]; exact HFIN.out, HSF.out⟩
    simp [results, Tryz.results147, go_sem]
theorem wr_any (m : Nat) : WrIH (fun d => SizeOf.sizeOf d ≤ m) := by
  induction m with
  | zero => intro d hd; have := Val.sz_pos d; omega
  | succ m ih =>
  intro d hd hc w F V B sl so a b n hV h hF hVB hB hn hL h6
  have hrv := h
  obtain ⟨k, bo, i, t, l, ok, ov⟩ := d
  cases h with
  | mk bl fl bo' fo cl co hl ho hov el rl ek eo ro bk bi bt nl no =>
  unfold cntV at hc
  unfold lenV at hn
  unfold WrPost lenV
  show Calls _ (fnO k) (_ ++ bsO k V) _ _
  by_cases h2 : k = 2
  · subst h2
    rw [if_pos rfl] at hn
    exact (own1_any hV hB (by omega)).mono fun e w' h => by rw [if_pos rfl]; exact h
  by_cases h3 : k = 3
  · subst h3
    simp only [if_neg h2, if_pos] at hn ⊢
    exact own2_any hV hB (by simp [Lit.wf, IntKind.min, IntKind.max, IntKind.signed, IntKind.bits] at bi; omega) (by simp [Lit.wf, IntKind.min, IntKind.max, IntKind.signed, IntKind.bits] at bi; omega) (by omega) hL
  by_cases h4 : k = 4
  · subst h4
    simp only [if_neg h2, if_neg h3, if_pos] at hn ⊢
    exact own3_any hV hB (by omega) (by omega) hL
  by_cases h5 : k = 5
  · subst h5
    simp only [if_neg h2, if_neg h3, if_neg h4, if_pos] at hn ⊢
    exact own4_any ih (fun j d hj => Nat.le_of_lt_succ (Nat.lt_of_lt_of_le (Val.sz_l hj) hd)) (by omega) hV hrv hF hVB hB hn hL h6
  by_cases h6' : k = 6
  · subst h6'
    simp only [if_neg h2, if_neg h3, if_neg h4, if_neg h5, if_pos] at hn ⊢
    exact own5_any ih (fun j d hj => Nat.le_of_lt_succ (Nat.lt_of_lt_of_le (Val.sz_o hj) hd)) (by omega) hV hrv hF hVB hB hn hL h6
  · simp only [if_neg h2, if_neg h3, if_neg h4, if_neg h5, if_neg h6'] at hn ⊢
    have hf : fnO k = 149 := by simp [fnO, h2, h3, h4, h5, h6']
    have hb : bsO k V = #[] := by simp [bsO, h2, h3, h4, h5, h6']
    rw [hf, hb]
    exact own6_any hB (by omega)
end Go.Proofs.YtechahocffcbpaaGreatDoor
namespace Go.Proofs.YtechahocffcbpaaGreatDoor
open Go.RowKit Go.Maps Go.Shelf
set_option linter.unusedVariables false
set_option linter.unusedSimpArgs false
theorem bytes_any {w : World} {d : Val} {sl so : Sl} (h : RV w (Lt w.heap.size) d sl so) (hc : cntV d ≤ 1100000) (hL : LibQ w) : Calls Tryz.prog 61 #[aggV d sl so] w fun e w' => e = .returned (.int .i64 (lenV d : Int)) ∧ Nw w w' := by
  have hlc := lenV_cnt _ w d sl so h
  have h6 := hL.lib.big
  have HH := Lib.hid h
  have HC := Lib.hid hc
  have HL := Lib.hid hL
  have HLC := Lib.hid hlc
  clear h hc hL hlc
  go_enter Tryz.func61, Tryz.ntmps61
  go_wp2_with fail
  generalize hW0 : World.alloc _ _ = W0
  obtain ⟨hx0, hz0, hb0, hb1⟩ := two_blocks w _ _ _ _ W0 hW0
  have HX0 := Lib.hid hx0
  have HB1 := Lib.hid hb1
  clear hW0 hx0 hb0 hb1
  refine (own_any W0 d sl so).mono ?_
  rintro e w1 ⟨rfl, hx1, hbv⟩
  rw [hz0] at hbv
  have hw1 := HB1.out.ext hx1
  have hn1 := (Nw.of HX0.out).trans (Nw.of hx1)
  have hcall := wr_any _ d (Nat.le_refl _) HC.out w1 (Lt w.heap.size) (w.heap.size + 2) (w.heap.size + 1) sl so _ _ 0 hbv (HH.out.agree (Nw.agree hn1 fun b hb => hb)) (fun i hi => ⟨Nat.lt_of_lt_of_le hi hn1.size, by have hi : i < w.heap.size := hi; omega⟩) (by omega) hw1 (by have := HLC.out; have := HC.out; omega) (HL.out.nw hn1) (by omega)
  have HCALL := Lib.hid hcall
  have HN1 := Lib.hid hn1
  have hen := enters_own d.kind
  clear hx1 hbv hw1 hn1 hcall
  go_wp2_with fail
  refine HCALL.out.mono ?_
  rintro e w2 ⟨⟨r, rfl⟩, hb, hs⟩
  have c3 : w2.cell? ⟨w.heap.size + 1, 3, none⟩ = some (.int .i64 ((0 + lenV d : Nat) : Int)) := hb.cell 3
  rw [Nat.zero_add] at c3
  have HN2 := Lib.hid (HN1.out.comp hs fun i hi e => by have e : i = w.heap.size + 1 := e; omega)
  clear hb hs
  go_wp2_with fail
  go_ret
  exact ⟨rfl, HN2.out⟩
def fitV (d : Val) : Int := if mayV d 1 ≠ 0 then mayV d 1 else if 16 < deepV d then 5 else if 1024 < lenV d then 6 else 0
theorem fits_any {w : World} {d : Val} {sl so : Sl} (h : RV w (Lt w.heap.size) d sl so) (hc : cntV d ≤ 1100000) (hL : LibQ w) : Calls Tryz.prog 34 #[aggV d sl so] w fun e w' => e = .returned (.int .i64 (fitV d)) ∧ Nw w w' := by
  have hRV : ∀ W, Nw w W → RV W (Lt W.heap.size) d sl so := fun W hW => (h.agree (Nw.agree hW fun b hb => hb)).mono fun b hb => Nat.lt_of_lt_of_le hb hW.size
  have hm := fun W (hW : Nw w W) => may_anyV (hRV W hW) (hL.lib.nw hW)
  have hd := fun W (hW : Nw w W) (hq : deepV d ≤ 1000000) => deepAt_any _ d (Nat.le_refl _) hq W sl so (hRV W hW)
  have hb := fun W (hW : Nw w W) => bytes_any (hRV W hW) hc (hL.nw hW)
  have HM := Lib.hid hm
  have HD := Lib.hid hd
  have HB := Lib.hid hb
  obtain ⟨r, hr⟩ : ∃ r, fitV d = r := ⟨_, rfl⟩
  rw [hr]
  have HR := Lib.hid hr
  clear hm hd hb hr hRV h hL
  go_enter Tryz.func34, Tryz.ntmps34
  go_wp2_with fail
  have hx0 := (Ext.refl w).alloc (valC d sl so) 34
  have hb0 := Blk.new w 34 (valC d sl so)
  refine (HM.out _ (Nw.of hx0)).mono ?_
  rintro e w1 ⟨rfl, hn1⟩
  have hb1 := hn1.blk hb0
  obtain ⟨q0, q1, q2, q3, q4, q5⟩ := hb1.c6
  have lq := hb1.lt
  have HX1 := Lib.hid ((Nw.of hx0).trans hn1)
  have HB1 := Lib.hid hb1
  clear hx0 hb0 hn1 hb1
  obtain ⟨m, hm⟩ : ∃ m, mayV d 1 = m := ⟨_, rfl⟩
  rw [hm]
  by_cases hm0 : m = 0
  · subst hm0
    have hdm := deep_may d 1 hm
    have HDP := Lib.hid hdm
    have HM0 := Lib.hid hm
    clear hm hdm
    go_wp2_with fail
    refine (HD.out _ HX1.out (by have := HDP.out; omega)).mono ?_
    rintro e w2 ⟨rfl, hx2⟩
    have hb2 := HB1.out.ext hx2
    clear q0 q1 q2 q3 q4 q5
    obtain ⟨q0, q1, q2, q3, q4, q5⟩ := hb2.c6
    have lq2 := hb2.lt
    have HX2 := Lib.hid (HX1.out.trans (Nw.of hx2))
    clear hx2 hb2
    by_cases hd16 : 16 < deepV d
    · have g0 : decide ((16 : Int) < (deepV d : Int)) = true := decide_eq_true (by omega)
      have hr5 : r = 5 := by rw [← HR.out, fitV, HM0.out, if_neg (by simp), if_pos hd16]
      have HR5 := Lib.hid hr5
      clear hr5 hd16
      go_wp2_with fail
      go_ret
      exact ⟨by rw [HR5.out]; rfl, HX2.out⟩
    · have g0 : decide ((16 : Int) < (deepV d : Int)) = false := decide_eq_false (by omega)
      have HD16 := Lib.hid hd16
      clear hd16
      go_wp2_with fail
      refine (HB.out _ HX2.out).mono ?_
      rintro e w3 ⟨rfl, hn3⟩
      have HN3 := Lib.hid (HX2.out.trans hn3)
      clear hn3 q0 q1 q2 q3 q4 q5
      by_cases hl : 1024 < lenV d
      · have g1 : decide ((1024 : Int) < (lenV d : Int)) = true := decide_eq_true (by omega)
        have HR6 := Lib.hid (show r = 6 by rw [← HR.out, fitV, HM0.out, if_neg (by simp), if_neg HD16.out, if_pos hl])
        clear hl
        go_wp2_with fail
        go_ret
        exact ⟨by rw [HR6.out]; rfl, HN3.out⟩
      · have g1 : decide ((1024 : Int) < (lenV d : Int)) = false := decide_eq_false (by omega)
        have HR0 := Lib.hid (show r = 0 by rw [← HR.out, fitV, HM0.out, if_neg (by simp), if_neg HD16.out, if_neg hl])
        clear hl
        go_wp2_with fail
        go_ret
        exact ⟨by rw [HR0.out]; rfl, HN3.out⟩
  · have g0 : (m != 0) = true := by simpa using hm0
    have HRM := Lib.hid (show r = m by rw [← HR.out, fitV, hm, if_pos hm0])
    clear hm hm0
    go_wp2_with fail
    go_ret
    exact ⟨by rw [HRM.out]; rfl, HX1.out⟩
theorem commit_none {H : Nat → Prop} {w : World} {O : Nat} {d : OD} (h : OvAt H w O d) (hm : d.mb = none) : Calls Tryz.prog 12 #[.pointer (some ⟨O, 0, none⟩)] w fun e w' => e = .returned (treeV d.T) ∧ Nw w w' := by
  have c0 : w.cell? ⟨O, 0, none⟩ = some (rootV d.T) := h.blk.cell 0
  have c1 : w.cell? ⟨O, 1, none⟩ = some (.map none) := by have := h.blk.cell 1; rw [hm] at this; exact this
  have lO := h.blk.lt
  obtain ⟨r, hr⟩ := rootV_ptr d.T
  rw [treeV, hr]
  rw [hr] at c0
  have l1 : O < w.heap.size + 1 := by omega
  have l2 : O < w.heap.size + 1 + 1 := by omega
  clear h hm hr
  go_enter Tryz.func12, Tryz.ntmps12
  go_wp2_with fail
  generalize hW0 : World.alloc _ _ = W0
  obtain ⟨hx0, hz0, hb0, hb1⟩ := two_blocks w _ _ _ _ W0 hW0
  have HX0 := Lib.hid hx0
  have HB0 := Lib.hid hb0
  have HB1 := Lib.hid hb1
  have HZ0 := Lib.hid hz0
  clear hW0 hx0 hb0 hb1 l1 l2 hz0
  refine ((callsIn_wide (n := 5)).1 (Tryz.maps_Keys_38 none W0)).mono ?_
  rintro e w' ⟨rfl, rfl⟩
  go_wp2_with fail
  refine ((callsIn_wide (n := 5)).1 (Tryz.slices_Sorted_keys_nil_37_38 W0)).mono ?_
  rintro e w2 ⟨v, ss, rfl, rfl, hrow, hnil, hbl⟩
  obtain rfl := hnil.2 rfl
  have hn2 : Nw W0 w2 := (Nw.of ((Ext.refl W0).alloc #[.map none] 26)).trans (Sb.new hbl)
  have hb0 := hn2.blk HB0.out
  have hb1 := hn2.blk HB1.out
  have q0 : w2.cell? ⟨w.heap.size, 0, none⟩ = some (.pointer none) := hb0.cell 0
  have q1 : w2.cell? ⟨w.heap.size + 1, 0, none⟩ = some (.pointer r) := hb1.cell 0
  have f0 := hb0.frozen 0
  have k0 := hb0.lt
  have k1 := hb1.lt
  have HN := Lib.hid (show Nw w (w2.setCell ⟨w.heap.size, 0, none⟩ (.pointer r)) from
    (((Nw.of HX0.out).any (fun b => w.heap.size ≤ b)).trans (hn2.any _)).set (p := ⟨w.heap.size, 0, none⟩) (.inl (Nat.le_refl _)) _ |>.mono fun i hi e => by omega)
  clear hrow hnil hbl hn2 hb0 hb1 c0 c1
  go_wp2_with fail
  go_loopw [23] (fun q wr => q = .int .i64 0 ∧ wr = w2) (fun _ _ => 0)
  case atStart => exact ⟨rfl, rfl⟩
  case round =>
    obtain ⟨rfl, rfl⟩ := hrel
    go_wp2_with fail
    refine bodyPost_ret (v := .agg #[.pointer r]) (by simp [results, Tryz.results12, go_sem, q0]) rfl ?_
    exact ⟨rfl, HN.out⟩
end Go.Proofs.YtechahocffcbpaaGreatDoor
