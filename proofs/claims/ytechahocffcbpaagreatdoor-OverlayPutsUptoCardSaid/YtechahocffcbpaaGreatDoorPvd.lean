/- What the theorem needs of the texts PairN, DeleteE, DeleteN, DelT, Mend, Mend2, Without, Del, Is, Do07, Held2: no condition of its own. -/
import Derived.Deep.RegionLaw
import Derived.Lib.SliceRun
import Derived.Laws.IdiomStrings
import Derived.WalkArith
import Derived.Test.YtechahocffcbpaaGreatDoorPva
import Derived.Test.YtechahocffcbpaaGreatDoorPvb
import Derived.Test.YtechahocffcbpaaGreatDoorPvc
set_option maxRecDepth 100000
set_option maxHeartbeats 2000000
namespace Go.Proofs.YtechahocffcbpaaGreatDoor
open Go.RowKit
set_option linter.unusedVariables false
set_option linter.unusedSimpArgs false
abbrev RowsN (sl sr : Sl) : Nat → Prop := fun b => sl.row = some b ∨ sr.row = some b
def BPostN (P : Nat → World → Prop) (W : World) (e : Ending) (W' : World) : Prop := ∃ a, e = .returned (.pointer (some ⟨a, 0, none⟩)) ∧ W.heap.size ≤ a ∧ P a W' ∧ Ext W W'
theorem own_stN {w W : World} {base n : Nat} {s : Sl} {xs : List Value} {G : Nat → Prop} (h : w.ownsRow base 23 1 (.slice s.a n s.c) n xs) (hs : St G w W) (hG : ∀ b, s.row = some b → ¬ G b) : W.ownsRow base 23 1 (.slice s.a n s.c) n xs :=
  own_agree h hs.agree fun b hb => ⟨(own_row h hb).2, hG b hb⟩
theorem rd_takeN {w : World} {F : Nat → Prop} {n m : Nat} {s : Sl} {cs : List Value} (h : Rd w F 1 s n cs) (hm : m ≤ n) : Rd w F 1 s m (cs.take (m * 1)) := h.take hm
theorem lastN {ls : List Value} {n : Nat} (hl : ls.length = n * 1) (hn : 0 < n) (hp : ∀ u ∈ ls, ∃ p, u = Value.pointer p) : ∃ v0 : Option Addr, ls.drop ((n - 1) * 1) = [.pointer v0] := by
  have h : (ls.drop ((n - 1) * 1)).length = 1 := by rw [List.length_drop, hl]; omega
  match hd : ls.drop ((n - 1) * 1), h with
  | [x], _ => obtain ⟨p, hq⟩ := hp x (List.mem_of_mem_drop (by rw [hd]; exact List.mem_singleton.2 rfl)); exact ⟨p, by rw [hq]⟩
section
variable {w : World} {base m nr : Nat} {sl sr : Sl} {ls rs : List Value} {P1 P2 : Nat → World → Prop}
theorem pairN_left (hL : w.ownsRow base 23 1 (.slice sl.a (m + 1) sl.c) (m + 1) ls) (hR : w.ownsRow base 23 1 (.slice sr.a nr sr.c) nr rs) (hb : base ≤ w.heap.size) (hne : ∀ b, sl.row = some b → sr.row ≠ some b)
    (hl1 : ∀ u ∈ ls, u.oneCell' = true) (hr1 : ∀ u ∈ rs, u.oneCell' = true) (hpt : ∀ u ∈ ls, ∃ p, u = Value.pointer p) (h4 : 4 < m + 1) (h8 : m + 1 ≤ 8) (r8 : nr ≤ 8)
    (hB1 : ∀ (W : World) (s : Sl), St (RowsN sl sr) w W → Rd W (Lt W.heap.size) 1 s m (ls.take (m * 1)) → Calls Tryz.prog 67 #[.slice s.a m s.c] W (BPostN P1 W))
    (hB2 : ∀ (W : World) (s : Sl), St (RowsN sl sr) w W → Rd W (Lt W.heap.size) 1 s (nr + 1) (ls.drop (m * 1) ++ rs) → Calls Tryz.prog 67 #[.slice s.a (nr + 1) s.c] W (BPostN P2 W))
    (hP1 : ∀ a W W', St (RowsN sl sr) w W → P1 a W → St (RowsN sl sr) W W' → P1 a W') :
    Calls Tryz.prog 164 #[.slice sl.a (m + 1) sl.c, .slice sr.a nr sr.c, .func (.func 67) #[] #[]] w fun e w' => ∃ a b, e = .returned (.tuple #[.pointer (some ⟨a, 0, none⟩), .pointer (some ⟨b, 0, none⟩)]) ∧ w.heap.size ≤ a ∧ w.heap.size ≤ b ∧ P1 a w' ∧ P2 b w' ∧ St (RowsN sl sr) w w' := by
  obtain ⟨i0, hi, hz0, hz1, hz2⟩ := info_parts Tryz.infoPNode
  obtain ⟨v0, hlast⟩ := lastN hL.1 (by omega) hpt
  rw [Nat.add_sub_cancel] at hlast
  obtain ⟨gl, capl, rfl, hgb, hncl, hcml, hfill⟩ := own_block hL (by omega)
  have hgl : gl < w.heap.size := hfill.lt
  have hrowl : ∀ b, sr.row = some b → b < w.heap.size := fun b hb => (own_row hR hb).2
  have hcl : ∀ W, St (fun b => sr.row = some b) w W → ∀ j u, ls[j]? = some u → W.cell? ⟨gl, j, none⟩ = some u := fun W hW j u hj => by
    obtain ⟨b, o, h1, h2, h3⟩ := Rd.of_own hL
    obtain ⟨e1, -, -⟩ := h1.eq (by omega)
    obtain ⟨rfl, rfl⟩ : gl = b ∧ 0 = o := by simpa using e1
    have := h3 j u hj
    rw [Nat.zero_add] at this
    exact (hW.cell hgl (hne gl rfl)).trans this
  have hlc : ∀ (c : Nat) (u : Value), ([.pointer v0] : List Value)[c]? = some u → ls[m * 1 + c]? = some u := fun c u hu => by rw [← hlast, List.getElem?_drop] at hu; exact hu
  have hS : ∀ W, St (fun b => sr.row = some b) w W → W.cell? ⟨gl, m, none⟩ = some (.pointer v0) := fun W hW => by have := hcl W hW _ _ (hlc 0 _ rfl); simpa using this
  have hgt : (4 : Int) < (m : Int) + 1 := by omega
  have hmc : (m : Int) ≤ (capl : Int) := by omega
  have hmn : (m : Int) < (m : Int) + 1 := by omega
  have hcm' : (capl : Int) ≤ 9223372036854775807 := by unfold maxLen at hcml; omega
  have hw1 : IntKind.i64.wrap ((m : Int) + 1) = (m : Int) + 1 := by rw [IntKind.wrap_i64]; omega
  have hb1 : ∀ W, St (fun b => sr.row = some b) w W → Calls Tryz.prog 67 #[.slice (some ⟨gl, 0, none⟩) m capl] W (BPostN P1 W) := fun W hW =>
    hB1 W ⟨some ⟨gl, 0, none⟩, capl⟩ (hW.mono fun i _ hi => .inr hi) (rd_takeN ((Rd.of_own (own_stN (s := ⟨some ⟨gl, 0, none⟩, capl⟩) hL hW (fun b hb => hne b hb))).mono fun i hi => hi.2) (by omega))
  have hins : ∀ W vb, Ext w W → Blk W vb 23 #[.pointer v0] → w.heap.size ≤ vb → Calls Tryz.prog 107 #[.slice sr.a nr sr.c, .int .i64 0, .slice (some ⟨vb, 0, none⟩) 1 1] W (InsPostN base sr nr 0 rs [.pointer v0] W) := fun W vb hW hv hvb =>
    insN_any (own_stN hR (hW.st (fun _ => False)) (fun _ _ h => h)) (Nat.le_trans hb hW.size) (by omega) (Nat.zero_le _) rfl hv (fun e => by have := hrowl vb e; omega) (fun u hu => hl1 u (List.mem_of_mem_drop (hlast ▸ hu))) hr1
  have HS := Lib.hid hS
  have HB1 := Lib.hid hb1
  have HB2 := Lib.hid hB2
  have HI := Lib.hid hins
  have HP1 := Lib.hid hP1
  have HL := Lib.hid hlast
  clear hS hb1 hB1 hB2 hins hP1 hlast hlc hcl hl1 hr1 hL hR hfill hne
  go_enter Tryz.func164, Tryz.ntmps164
  go_wp2_with fail
  have s0 := (St.refl (fun b => sr.row = some b) w).drew
  have k0 := HS.out _ s0
  have e0 := (Ext.refl w).drew
  have sA := ((((Ext.refl w).alloc #[.pointer v0] 23).drew).st (fun b => sr.row = some b))
  have HV0 := Lib.hid (show Blk (w.alloc (.cells #[.pointer v0] 23)).drew w.heap.size 23 #[.pointer v0] from Blk.new w 23 _)
  go_region_held3 (fun W => W.cell? ⟨gl, m, none⟩ = some (.pointer v0)) (first | (with_reducible exact HS.out _ s0) | (with_reducible exact HS.out _ (s0.alloc _ _)) | (with_reducible exact HS.out _ s1) | (with_reducible exact HS.out _ (s1.alloc _ _)) | (with_reducible exact HS.out _ s2) | (with_reducible exact HS.out _ s3q) | (with_reducible exact HS.out _ sA) | go_keep)
    (first
      | (go_at_call_of 67 (Value.slice (some ⟨gl, 0, none⟩) m capl); refine (HB1.out _ (by first | exact s0 | exact s0.alloc _ _)).mono ?_; rintro e w1 ⟨a1, rfl, ha1, hp1, hx1⟩; have s1 := (show St (fun b => sr.row = some b) w _ from by first | exact s0 | exact s0.alloc _ _).ext hx1; have e1 := (show Ext w _ from by first | exact e0 | exact e0.alloc _ _).trans hx1; have HPA := Lib.hid hp1; clear hp1)
      | (go_at_call 107; refine (HI.out _ _ (by first | (with_reducible exact e1) | exact e1.alloc _ _) (by first | exact (Blk.new _ _ _) | exact Blk.ext HV0.out hx1) (by first | exact e1.size | exact Nat.le_refl _)).mono ?_; rintro e w2 ⟨s3, rfl, ho2, hw2, hr2⟩; have s12 := (show St (RowsN ⟨some ⟨gl, 0, none⟩, capl⟩ sr) w1 w2 from by first | exact (hw2.st fun i hi => .inr hi) | exact (((Ext.refl w1).alloc _ _).st _).trans (hw2.st fun i hi => .inr hi)); have s2 := s1.trans (show St (fun b => sr.row = some b) w1 w2 from by first | exact (hw2.st fun i hi => hi) | exact (((Ext.refl w1).alloc _ _).st _).trans (hw2.st fun i hi => hi)); have HO2 := Lib.hid ho2; clear ho2 hw2 hr2)
      | (go_at_call 67; refine (HB2.out w2 s3 (s2.mono fun i _ hi => .inr hi) ?_).mono ?_; (have h := Rd.of_own HO2.out; simp only [Nat.zero_mul, List.take_zero, List.nil_append, List.drop_zero] at h; rw [← HL.out] at h; exact h.mono fun i hi => hi.2); rintro e w3 ⟨a2, rfl, ha2, hp2, hx3⟩; have s3q := s2.ext hx3; have HPB := Lib.hid hp2; clear hp2))
  all_goals
    go_wp2_with fail
    go_ret2
    have hs1 := s1.size
    have hs2 := s2.size
    refine ⟨a1, a2, rfl, ?_, Nat.le_trans hs2 ha2, HP1.out a1 w1 w3 (s1.mono fun i _ hi => .inr hi) HPA.out (s12.ext hx3), HPB.out, s3q.mono fun i _ hi => .inr hi⟩
    simp only [World.size_alloc, World.size_drew] at ha1
    omega
end
theorem firstN {rs : List Value} {n : Nat} (hl : rs.length = n * 1) (hn : 0 < n) (hp : ∀ u ∈ rs, ∃ p, u = Value.pointer p) : ∃ v0 : Option Addr, rs.take 1 = [.pointer v0] := by
  have h : (rs.take 1).length = 1 := by rw [List.length_take, hl]; omega
  match hd : rs.take 1, h with
  | [x], _ => obtain ⟨p, hq⟩ := hp x (List.mem_of_mem_take (by rw [hd]; exact List.mem_singleton.2 rfl)); exact ⟨p, by rw [hq]⟩
section
variable {w : World} {base nl m : Nat} {sl sr : Sl} {ls rs : List Value} {P1 P2 : Nat → World → Prop}
theorem pairN_right (hL : w.ownsRow base 23 1 (.slice sl.a nl sl.c) nl ls) (hR : w.ownsRow base 23 1 (.slice sr.a (m + 1) sr.c) (m + 1) rs) (hb : base ≤ w.heap.size) (hne : ∀ b, sl.row = some b → sr.row ≠ some b)
    (hl1 : ∀ u ∈ ls, u.oneCell' = true) (hr1 : ∀ u ∈ rs, u.oneCell' = true) (hpt : ∀ u ∈ rs, ∃ p, u = Value.pointer p) (h4 : nl ≤ 4) (h5 : 4 < m + 1) (h8 : m + 1 ≤ 8)
    (hB1 : ∀ (W : World) (s : Sl), St (RowsN sl sr) w W → Rd W (Lt W.heap.size) 1 s (nl + 1) (ls ++ rs.take 1) → Calls Tryz.prog 67 #[.slice s.a (nl + 1) s.c] W (BPostN P1 W))
    (hB2 : ∀ (W : World) (s : Sl), St (RowsN sl sr) w W → Rd W (Lt W.heap.size) 1 s m (rs.drop 1) → Calls Tryz.prog 67 #[.slice s.a m s.c] W (BPostN P2 W))
    (hP1 : ∀ a W W', St (RowsN sl sr) w W → P1 a W → St (RowsN sl sr) W W' → P1 a W') :
    Calls Tryz.prog 164 #[.slice sl.a nl sl.c, .slice sr.a (m + 1) sr.c, .func (.func 67) #[] #[]] w fun e w' => ∃ a b, e = .returned (.tuple #[.pointer (some ⟨a, 0, none⟩), .pointer (some ⟨b, 0, none⟩)]) ∧ w.heap.size ≤ a ∧ w.heap.size ≤ b ∧ P1 a w' ∧ P2 b w' ∧ St (RowsN sl sr) w w' := by
  obtain ⟨i0, hi, hz0, hz1, hz2⟩ := info_parts Tryz.infoPNode
  obtain ⟨v0, hfirst⟩ := firstN hR.1 (by omega) hpt
  obtain ⟨gr, capr, rfl, hgb, hncr, hcmr, hfilr⟩ := own_block hR (by omega)
  have hgr : gr < w.heap.size := hfilr.lt
  have hne' : ∀ b, sl.row = some b → b ≠ gr := fun b hb e => hne b hb (by simp [Sl.row, e])
  have hrd : Rd w (fun b => b = gr) 1 ⟨some ⟨gr, 0, none⟩, capr⟩ (m + 1) rs := by
    obtain ⟨b, o, h1, h2, h3⟩ := Rd.of_own hR
    obtain ⟨e1, hnc, hcm⟩ := h1.eq (by omega)
    obtain ⟨rfl, rfl⟩ : gr = b ∧ 0 = o := by simpa using e1
    exact ⟨gr, 0, .some _ _ _ _ hnc hcm rfl, h2, h3⟩
  have hcr : ∀ W, St (fun b => sl.row = some b) w W → ∀ j u, rs[j]? = some u → W.cell? ⟨gr, j, none⟩ = some u := fun W hW j u hj => by
    obtain ⟨b, o, h1, h2, h3⟩ := Rd.of_own hR
    obtain ⟨e1, -, -⟩ := h1.eq (by omega)
    obtain ⟨rfl, rfl⟩ : gr = b ∧ 0 = o := by simpa using e1
    have := h3 j u hj
    rw [Nat.zero_add] at this
    exact (hW.cell hgr (fun e => hne' gr e rfl)).trans this
  have hfc : ∀ (c : Nat) (u : Value), ([.pointer v0] : List Value)[c]? = some u → rs[c]? = some u := fun c u hu => by
    rw [← hfirst, List.getElem?_take] at hu
    split at hu
    · exact hu
    · cases hu
  have hS : ∀ W, St (fun b => sl.row = some b) w W → W.cell? ⟨gr, 0, none⟩ = some (.pointer v0) := fun W hW => hcr W hW _ _ (hfc 0 _ rfl)
  have hn4 : ¬ (4 : Int) < (nl : Int) := by omega
  have hgt : (4 : Int) < (m : Int) + 1 := by omega
  have hm0 : (0 : Int) < (m : Int) + 1 := by omega
  have hm1 : (1 : Int) ≤ (m : Int) + 1 := by omega
  have hc1 : ¬ capr = 1 := by omega
  have hw1 : IntKind.i64.wrap ((m : Int) + 1) = (m : Int) + 1 := by rw [IntKind.wrap_i64]; omega
  have hcm' : (capr : Int) ≤ 9223372036854775807 := by unfold maxLen at hcmr; omega
  have hcn : (m : Int) + 1 ≤ (capr : Int) := by omega
  have h63 : nl + 1 ≤ maxLen := by unfold maxLen; omega
  have hby : (nl + 1) * 8 ≤ 140737488355328 := by omega
  have hown : ∀ W, Ext w W → W.ownsRow base 23 1 (.slice sl.a nl sl.c) nl ls := fun W hW => own_stN hL (hW.st (fun _ => False)) (fun _ _ h => h)
  have hb2 : ∀ W, St (fun b => sl.row = some b) w W → Calls Tryz.prog 67 #[.slice (some ⟨gr, 1, none⟩) m (capr - 1)] W (BPostN P2 W) := fun W hW => by
    refine hB2 W ⟨some ⟨gr, 1, none⟩, capr - 1⟩ (hW.mono fun i _ hi => .inl hi) ?_
    have h := ((hrd.agree (hW.agree.mono fun i (hi : i = gr) => ⟨by omega, fun e => hne' i e hi⟩)).drop (m := 1) (by omega)).mono (G := Lt W.heap.size) fun i (hi : i = gr) => by have := hW.size; show i < _; omega
    simpa using h
  have HS := Lib.hid hS
  have HB1 := Lib.hid hB1
  have HB2 := Lib.hid hb2
  have HP1 := Lib.hid hP1
  have HF := Lib.hid hfirst
  have HOWN := Lib.hid hown
  have HL1 := Lib.hid hl1
  have H1C : Hid (∀ u ∈ ([.pointer v0] : List Value), u.oneCell' = true) := Lib.hid fun u hu => hr1 u (List.mem_of_mem_take (hfirst ▸ hu))
  clear hS hb2 hB1 hB2 hP1 hfirst hcr hfc hl1 hr1 hL hR hfilr hne hne' hown hrd
  go_enter Tryz.func164, Tryz.ntmps164
  go_wp2_with fail
  have s0 := (St.refl (fun b => sl.row = some b) w).drew
  have e0 := (Ext.refl w).drew
  have sA := ((((Ext.refl w).alloc #[.pointer v0] 23).drew).st (fun b => sl.row = some b))
  have k0 := HS.out _ s0
  have HV0 := Lib.hid (show Blk (w.alloc (.cells #[.pointer v0] 23)).drew w.heap.size 23 #[.pointer v0] from Blk.new w 23 _)
  go_region_held3 (fun W => W.cell? ⟨gr, 0, none⟩ = some (.pointer v0)) (first | (with_reducible exact HS.out _ s0) | (with_reducible exact HS.out _ sA) | (with_reducible exact HS.out _ s1) | (with_reducible exact HS.out _ s2) | (with_reducible exact HS.out _ s3) | go_keep)
    (first
      | (refine step_append_x _ rfl (.tmp 35) (.tmp 39) 119 rfl base 23 i0 _ 1 8 Tryz.underlying119 hi hz0 hz1 hz2 rfl (by decide) sl nl ls (by rfl) (HOWN.out _ (((Ext.refl w).alloc _ _).drew)) (fun b => b = w.heap.size) ⟨some ⟨w.heap.size, 0, none⟩, 1⟩ 1 [.pointer v0] (by rfl) (Rd.block HV0.out (by decide) rfl) H1C.out h63 hby (by rw [World.size_drew, World.size_alloc]; omega) ?_; intro sx w1 hown1 hwr1 hsx; have s1 := sA.trans (hwr1.st fun i hi => hi); have HO1 := Lib.hid hown1; clear hown1 hsx)
      | (go_at_call 67; refine (HB2.out w2 s2).mono ?_; rintro e w3 ⟨a2, rfl, ha2, hp2, hx3⟩; have s3 := s2.ext hx3; have HPB := Lib.hid hp2; clear hp2)
      | (go_at_call 67; refine (HB1.out w1 sx (s1.mono fun i _ hi => .inl hi) ?_).mono ?_; (have h := Rd.of_own HO1.out; rw [← HF.out] at h; exact h.mono fun i hi => hi.2); rintro e w2 ⟨a1, rfl, ha1, hp1, hx2⟩; have s2 := s1.ext hx2; have HPA := Lib.hid hp1; clear hp1))
  all_goals
    go_wp2_with fail
    go_ret2
    have hs1 := s1.size
    have hs2 := s2.size
    exact ⟨a1, a2, rfl, Nat.le_trans hs1 ha1, Nat.le_trans hs2 ha2, HP1.out a1 w2 w3 (s2.mono fun i _ hi => .inl hi) HPA.out (hx3.st _), HPB.out, s3.mono fun i _ hi => .inl hi⟩
theorem pairN_both {nr : Nat} (hL : w.ownsRow base 23 1 (.slice sl.a nl sl.c) nl ls) (hR : w.ownsRow base 23 1 (.slice sr.a nr sr.c) nr rs) (hb : base ≤ w.heap.size)
    (hr1 : ∀ u ∈ rs, u.oneCell' = true) (h4 : nl ≤ 4) (r4 : nr ≤ 4)
    (hB1 : ∀ (W : World) (s : Sl), St (RowsN sl sr) w W → Rd W (Lt W.heap.size) 1 s (nl + nr) (ls ++ rs) → Calls Tryz.prog 67 #[.slice s.a (nl + nr) s.c] W (BPostN P1 W)) :
    Calls Tryz.prog 164 #[.slice sl.a nl sl.c, .slice sr.a nr sr.c, .func (.func 67) #[] #[]] w fun e w' => ∃ a, e = .returned (.tuple #[.pointer (some ⟨a, 0, none⟩), .pointer none]) ∧ w.heap.size ≤ a ∧ P1 a w' ∧ St (RowsN sl sr) w w' := by
  obtain ⟨i0, hi, hz0, hz1, hz2⟩ := info_parts Tryz.infoPNode
  have hn4 : ¬ (4 : Int) < (nl : Int) := by omega
  have hr4 : ¬ (4 : Int) < (nr : Int) := by omega
  have h63 : nl + nr ≤ maxLen := by unfold maxLen; omega
  have hby : (nl + nr) * 8 ≤ 140737488355328 := by omega
  have HB1 := Lib.hid hB1
  have HR := Lib.hid (Rd.of_own hR)
  have HL := Lib.hid hL
  have H1 := Lib.hid hr1
  clear hB1 hR hL hr1
  go_enter Tryz.func164, Tryz.ntmps164
  go_wp2_with (at_builtin; refine wpList_append_x _ rfl (.tmp 47) (.tmp 48) 119 rfl base 23 i0 _ 1 8 Tryz.underlying119 hi hz0 hz1 hz2 rfl (by decide) sl nl ls rfl HL.out (In base w.heap.size) sr nr rs rfl HR.out H1.out h63 hby hb ?_; intro sx w1 hown1 hwr1 hsx)
  have s1 : St (fun b => sl.row = some b) w w1 := hwr1.st fun i hi => hi
  refine (HB1.out w1 sx (s1.mono fun i _ hi => .inl hi) ((Rd.of_own hown1).mono fun i hi => hi.2)).mono ?_
  rintro e w2 ⟨a1, rfl, ha1, hp1, hx2⟩
  have HP := Lib.hid hp1
  clear hp1 hown1 hwr1 hsx
  go_wp2_with fail
  go_ret2
  exact ⟨a1, rfl, Nat.le_trans s1.size ha1, HP.out, (s1.ext hx2).mono fun i _ hi => .inl hi⟩
end
section
variable {P : Program} (w : World)
theorem stepE_append_run {ops : Array Oper} {o : Oper} {a : Act} {K : Act → World → Prop} {Q : Exit → Act → World → Prop} {E : Prop} (hgd : o.guard = none) (d s : Operand) (t t' : TypeId)
    (ho : o.op = .call { callee := .builtin .append, args := #[d, s], argTypes := #[t, t'] }) (v u : Value) (hd : a.eval d = v) (hs : a.eval s = u) {v' : Value} {w' : World}
    (hr : (Builtin.append_ #[t, t'] o.type #[v, u]).run P w = .ok v' w') (h : K (a.put o.dst v') w') :
    if Region.wanted o (yielded ops a.tmps) = true then Oper.wp P o a w K Q else E := by
  have hw : Region.wanted o (yielded ops a.tmps) = true := by simp [Region.wanted, hgd]
  rw [if_pos hw]
  unfold Oper.wp execOp
  simp only [ho, resolve, invoke, builtin, Sem.run_bind, Sem.run_pure, Result.andThen_ok, List.map_toArray, List.map_cons, List.map_nil, hd, hs, hr]
  exact h
end
def DelPostE (base : Nat) (s : Sl) (n i : Nat) (xs : List Value) (w : World) (e : Ending) (w' : World) : Prop :=
  e = .returned (.slice s.a (n - 1) s.c) ∧ w'.ownsRow base 64 7 (.slice s.a (n - 1) s.c) (n - 1) (xs.take (i * 7) ++ xs.drop ((i + 1) * 7)) ∧ Wr w w' s.row
theorem zeroE (w : World) : (zeroValue 64).run Tryz.prog w = .ok (.agg #[.string ByteArray.empty, .int .i64 0, .bool false, .int .i64 0, .string ByteArray.empty, .slice none 0 0, .slice none 0 0]) w := by kernel_rfl
theorem delE_any {w : World} {base n i : Nat} {s : Sl} {xs : List Value} (hown : w.ownsRow base 64 7 (.slice s.a n s.c) n xs) (hn : n ≤ 1000) (hin : i < n) (h1 : ∀ u ∈ xs, u.oneCell' = true) :
    Calls Tryz.prog 110 #[.slice s.a n s.c, .int .i64 i, .int .i64 ((i : Int) + 1)] w (DelPostE base s n i xs w) := by
  obtain ⟨i0, hi, hz0, hz1, hz2⟩ := info_parts Tryz.infoEntry
  rcases hown.2 with ⟨hs, h0⟩ | ⟨g, cap, cur, hs, hbg, hg, hnc, hcm, hcs, htake⟩
  · omega
  simp only [Value.slice.injEq] at hs
  obtain ⟨ha, -, hc⟩ := hs
  have hs' : s = ⟨some ⟨g, 0, none⟩, cap⟩ := by cases s; simp_all
  have hxl := hown.1
  subst hs'
  clear hown ha hc
  have hic : i ≤ cap := by omega
  have hin' : (i : Int) < (n : Int) := by omega
  have hin1 : (i : Int) + 1 ≤ (n : Int) := by omega
  have hi0 : (0 : Int) ≤ (i : Int) := by omega
  have hib : (0 : Int) ≤ (i : Int) + 1 := by omega
  have hii : (i : Int) ≤ (i : Int) + 1 := by omega
  have hne : ((i : Int) == (i : Int) + 1) = false := beq_eq_false_iff_ne.2 (by omega)
  have hcm' : (cap : Int) ≤ 9223372036854775807 := by unfold maxLen at hcm; omega
  have hncI : (n : Int) ≤ (cap : Int) := by omega
  have htn : ((i : Int) + 1).toNat = i + 1 := by omega
  obtain ⟨news, hnews⟩ : ∃ news, news = xs.drop ((i + 1) * 7) := ⟨_, rfl⟩
  have hnl : news.length = (n - (i + 1)) * 7 := by rw [hnews, List.length_drop, hxl, ← Nat.sub_mul]
  have hn1 : ∀ u ∈ news, u.oneCell' = true := fun u hu => h1 u (List.mem_of_mem_drop (hnews ▸ hu))
  obtain ⟨A, hA, hsrc⟩ : ∃ A : Addr, (if cap = i + 1 then some (⟨g, 0, none⟩ : Addr) else some ⟨g, (i + 1) * 7, none⟩) = some A ∧ (∀ j u, news[j]? = some u → w.drew.cell? (A.add j) = some u) := by
    by_cases h : cap = i + 1
    · refine ⟨⟨g, 0, none⟩, by simp [h], fun t u hu => ?_⟩
      have h0 : news.length = 0 := by rw [hnl, show n - (i + 1) = 0 from by omega, Nat.zero_mul]
      rw [List.length_eq_zero_iff.1 h0] at hu
      simp at hu
    · refine ⟨⟨g, (i + 1) * 7, none⟩, by simp [h], fun j u hu => ?_⟩
      rw [add_at, World.cell?_drew, cell_of_row w g _ cur 64 (0, 0) hg]
      rw [hnews, List.getElem?_drop, ← htake, List.getElem?_take] at hu
      split at hu
      · simpa [Nat.add_comm, Nat.add_left_comm, Nat.add_assoc, Nat.mul_comm] using hu
      · cases hu
  obtain ⟨A1, hA1⟩ : ∃ A1, A1 = (cur.toList.take (i * 7) ++ news ++ cur.toList.drop (i * 7 + news.length)).toArray := ⟨_, rfl⟩
  have hfit : i * 7 + news.length ≤ cur.size := by rw [hnl, hcs]; omega
  have hs1 : A1.size = cur.size := by rw [hA1]; simp; omega
  obtain ⟨W1, hW1⟩ : ∃ W1, W1 = w.drew.setRow g A1 := ⟨_, rfl⟩
  have hap : ∀ ty, (Builtin.append_ #[48, 48] ty #[.slice (some ⟨g, 0, none⟩) i cap, .slice (some A) (n - (i + 1)) (cap - (i + 1))]).run Tryz.prog w.drew = .ok (.slice (some ⟨g, 0, none⟩) (n - 1) cap) W1 := fun ty => by
    have h := run_append_room (P := Tryz.prog) w.drew 48 ty 64 i0 Tryz.underlying48 hi g i cap cur hg A (n - (i + 1)) (cap - (i + 1)) news (by rw [hz1]; exact hnl) hsrc hn1 (by omega) (by rw [hz1]; exact hfit)
    rw [hz1] at h
    rw [hW1, hA1, h, show i + (n - (i + 1)) = n - 1 from by omega]
  have hg1 : W1.heap[g]? = some (.cells A1 64 (0, 0)) := by rw [hW1]; exact setRow_heap w.drew g cur A1 64 (0, 0) hg
  obtain ⟨Z, hZ⟩ : ∃ Z, Z = ((.agg #[.string ByteArray.empty, .int .i64 0, .bool false, .int .i64 0, .string ByteArray.empty, .slice none 0 0, .slice none 0 0]) : Value) := ⟨_, rfl⟩
  have hzv : ∀ w, (zeroValue 64).run Tryz.prog w = .ok Z w := fun w => by rw [hZ]; exact zeroE w
  obtain ⟨zs, hzs⟩ : ∃ zs, zs = (Builtin.zeroCells Z.cells 1).toList := ⟨_, rfl⟩
  have hzl : zs.length = 7 := by rw [hzs, Array.length_toList, size_zeroCells, hZ]; rfl
  have hz1c : ∀ u ∈ zs, u.oneCell' = true := by
    have : zs.all (·.oneCell') = true := by rw [hzs, hZ]; kernel_rfl
    exact fun u hu => List.all_eq_true.1 this u hu
  obtain ⟨A2, hA2⟩ : ∃ A2, A2 = (A1.toList.take ((n - 1) * 7) ++ zs ++ A1.toList.drop ((n - 1) * 7 + zs.length)).toArray := ⟨_, rfl⟩
  obtain ⟨W2, hW2⟩ : ∃ W2, W2 = W1.setRow g A2 := ⟨_, rfl⟩
  have hst := run_storeCells_at Tryz.prog g ((n - 1) * 7) 64 zs 0 A1 W1 hg1 (by rw [hzl, hs1, hcs]; omega) hz1c
  have hcl : ∀ ty c, (Builtin.clear_ #[48] ty #[.slice (some ⟨g, (n - 1) * 7, none⟩) 1 c]).run Tryz.prog W1 = .ok (.tuple #[]) W2 := fun ty c => by
    simp only [Nat.add_zero] at hst
    rw [← hA2, ← hW2] at hst
    rw [hzs] at hst
    simp [Builtin.clear_, run_underlying Tryz.underlying48, hzv, hst]
  have hg2 : W2.heap[g]? = some (.cells A2 64 (0, 0)) := by rw [hW2]; exact setRow_heap W1 g A1 A2 64 (0, 0) hg1
  have hwr : Wr w W2 (some g) := by
    rw [hW2, hW1]
    exact ((Wr.refl w (some g)).drew.trans (Wr.setRow w.drew A1) (fun i hi => .inl hi)).trans (Wr.setRow (w.drew.setRow g A1) A2) (fun i hi => .inl hi)
  have hfin : W2.ownsRow base 64 7 (.slice (some ⟨g, 0, none⟩) (n - 1) cap) (n - 1) (xs.take (i * 7) ++ xs.drop ((i + 1) * 7)) := by
    have ht : xs.take (i * 7) = cur.toList.take (i * 7) := by rw [← htake, List.take_take, Nat.min_eq_left (by omega)]
    refine ⟨by simp [hxl]; omega, .inr ⟨g, cap, A2, rfl, hbg, hg2, by omega, hcm, by rw [hA2]; simp; omega, ?_⟩⟩
    have hl2 : (cur.toList.take (i * 7) ++ news).length = (n - 1) * 7 := by rw [List.length_append, List.length_take, Array.length_toList, hnl]; omega
    rw [← hnews, ht, hA2]
    simp only [List.toList_toArray, List.append_assoc]
    rw [List.take_append_of_le_length (by rw [List.length_take, Array.length_toList]; omega), List.take_take, Nat.min_eq_left (by omega), hA1]
    simp only [List.toList_toArray]
    rw [List.take_append_of_le_length (by omega), List.take_of_length_le (by omega)]
  have HF := Lib.hid hfin
  have HW := Lib.hid hwr
  have HA := Lib.hid hA
  have hnm : ((n - 1 : Nat) : Int) < (n : Int) := by omega
  have hnm2 : ¬ cap = n - 1 := by omega
  have hnm3 : n - (n - 1) = 1 := by omega
  have hnm4 : ((n - 1 : Nat) : Int) ≤ (n : Int) := by omega
  clear hfin hwr hzv hZ hg2 hg1 hst hs1 hW2 hW1 hA2 hA1 hsrc hnl hn1 hnews hfit hg hcs htake h1 hxl hzl hz1c hzs
  go_enter Tryz.func110, Tryz.ntmps110
  go_wp2_with fail
  go_region_law (refine stepE_append_run _ rfl _ _ 48 48 rfl _ _ (by simp [Act.eval, Act.put]) (by simp [Act.eval, Act.put]) (hap _) ?_)
  go_wp2_with fail
  go_ret
  exact ⟨rfl, HF.out, HW.out⟩
section
variable {P : Program} (w : World)
theorem stepN_append_run {ops : Array Oper} {o : Oper} {a : Act} {K : Act → World → Prop} {Q : Exit → Act → World → Prop} {E : Prop} (hgd : o.guard = none) (d s : Operand) (t t' : TypeId)
    (ho : o.op = .call { callee := .builtin .append, args := #[d, s], argTypes := #[t, t'] }) (v u : Value) (hd : a.eval d = v) (hs : a.eval s = u) {v' : Value} {w' : World}
    (hr : (Builtin.append_ #[t, t'] o.type #[v, u]).run P w = .ok v' w') (h : K (a.put o.dst v') w') :
    if Region.wanted o (yielded ops a.tmps) = true then Oper.wp P o a w K Q else E := by
  have hw : Region.wanted o (yielded ops a.tmps) = true := by simp [Region.wanted, hgd]
  rw [if_pos hw]
  unfold Oper.wp execOp
  simp only [ho, resolve, invoke, builtin, Sem.run_bind, Sem.run_pure, Result.andThen_ok, List.map_toArray, List.map_cons, List.map_nil, hd, hs, hr]
  exact h
end
def DelPostN (base : Nat) (s : Sl) (n i : Nat) (xs : List Value) (w : World) (e : Ending) (w' : World) : Prop :=
  e = .returned (.slice s.a (n - 1) s.c) ∧ w'.ownsRow base 23 1 (.slice s.a (n - 1) s.c) (n - 1) (xs.take (i * 1) ++ xs.drop ((i + 1) * 1)) ∧ Wr w w' s.row
theorem zeroN (w : World) : (zeroValue 23).run Tryz.prog w = .ok (.pointer none) w := by kernel_rfl
theorem delN_any {w : World} {base n i : Nat} {s : Sl} {xs : List Value} (hown : w.ownsRow base 23 1 (.slice s.a n s.c) n xs) (hn : n ≤ 1000) (hin : i < n) (h1 : ∀ u ∈ xs, u.oneCell' = true) :
    Calls Tryz.prog 165 #[.slice s.a n s.c, .int .i64 i, .int .i64 ((i : Int) + 1)] w (DelPostN base s n i xs w) := by
  obtain ⟨i0, hi, hz0, hz1, hz2⟩ := info_parts Tryz.infoPNode
  rcases hown.2 with ⟨hs, h0⟩ | ⟨g, cap, cur, hs, hbg, hg, hnc, hcm, hcs, htake⟩
  · omega
  simp only [Value.slice.injEq] at hs
  obtain ⟨ha, -, hc⟩ := hs
  have hs' : s = ⟨some ⟨g, 0, none⟩, cap⟩ := by cases s; simp_all
  have hxl := hown.1
  subst hs'
  clear hown ha hc
  have hic : i ≤ cap := by omega
  have hin' : (i : Int) < (n : Int) := by omega
  have hin1 : (i : Int) + 1 ≤ (n : Int) := by omega
  have hi0 : (0 : Int) ≤ (i : Int) := by omega
  have hib : (0 : Int) ≤ (i : Int) + 1 := by omega
  have hii : (i : Int) ≤ (i : Int) + 1 := by omega
  have hne : ((i : Int) == (i : Int) + 1) = false := beq_eq_false_iff_ne.2 (by omega)
  have hcm' : (cap : Int) ≤ 9223372036854775807 := by unfold maxLen at hcm; omega
  have hncI : (n : Int) ≤ (cap : Int) := by omega
  have htn : ((i : Int) + 1).toNat = i + 1 := by omega
  obtain ⟨news, hnews⟩ : ∃ news, news = xs.drop ((i + 1) * 1) := ⟨_, rfl⟩
  have hnl : news.length = (n - (i + 1)) * 1 := by rw [hnews, List.length_drop, hxl, ← Nat.sub_mul]
  have hn1 : ∀ u ∈ news, u.oneCell' = true := fun u hu => h1 u (List.mem_of_mem_drop (hnews ▸ hu))
  obtain ⟨A, hA, hsrc⟩ : ∃ A : Addr, (if cap = i + 1 then some (⟨g, 0, none⟩ : Addr) else some ⟨g, i + 1, none⟩) = some A ∧ (∀ j u, news[j]? = some u → w.drew.cell? (A.add j) = some u) := by
    by_cases h : cap = i + 1
    · refine ⟨⟨g, 0, none⟩, by simp [h], fun t u hu => ?_⟩
      have h0 : news.length = 0 := by rw [hnl, show n - (i + 1) = 0 from by omega, Nat.zero_mul]
      rw [List.length_eq_zero_iff.1 h0] at hu
      simp at hu
    · refine ⟨⟨g, i + 1, none⟩, by simp [h], fun j u hu => ?_⟩
      rw [add_at, World.cell?_drew, cell_of_row w g _ cur 23 (0, 0) hg]
      rw [hnews, List.getElem?_drop, ← htake, List.getElem?_take] at hu
      split at hu
      · simpa [Nat.add_comm, Nat.add_left_comm, Nat.add_assoc, Nat.mul_comm] using hu
      · cases hu
  obtain ⟨A1, hA1⟩ : ∃ A1, A1 = (cur.toList.take (i * 1) ++ news ++ cur.toList.drop (i * 1 + news.length)).toArray := ⟨_, rfl⟩
  have hfit : i * 1 + news.length ≤ cur.size := by rw [hnl, hcs]; omega
  have hs1 : A1.size = cur.size := by rw [hA1]; simp; omega
  obtain ⟨W1, hW1⟩ : ∃ W1, W1 = w.drew.setRow g A1 := ⟨_, rfl⟩
  have hap : ∀ ty, (Builtin.append_ #[119, 119] ty #[.slice (some ⟨g, 0, none⟩) i cap, .slice (some A) (n - (i + 1)) (cap - (i + 1))]).run Tryz.prog w.drew = .ok (.slice (some ⟨g, 0, none⟩) (n - 1) cap) W1 := fun ty => by
    have h := run_append_room (P := Tryz.prog) w.drew 119 ty 23 i0 Tryz.underlying119 hi g i cap cur hg A (n - (i + 1)) (cap - (i + 1)) news (by rw [hz1]; exact hnl) hsrc hn1 (by omega) (by rw [hz1]; exact hfit)
    rw [hz1] at h
    rw [hW1, hA1, h, show i + (n - (i + 1)) = n - 1 from by omega]
  have hg1 : W1.heap[g]? = some (.cells A1 23 (0, 0)) := by rw [hW1]; exact setRow_heap w.drew g cur A1 23 (0, 0) hg
  obtain ⟨Z, hZ⟩ : ∃ Z, Z = ((.pointer none) : Value) := ⟨_, rfl⟩
  have hzv : ∀ w, (zeroValue 23).run Tryz.prog w = .ok Z w := fun w => by rw [hZ]; exact zeroN w
  obtain ⟨zs, hzs⟩ : ∃ zs, zs = (Builtin.zeroCells Z.cells 1).toList := ⟨_, rfl⟩
  have hzl : zs.length = 1 := by rw [hzs, Array.length_toList, size_zeroCells, hZ]; rfl
  have hz1c : ∀ u ∈ zs, u.oneCell' = true := by
    have : zs.all (·.oneCell') = true := by rw [hzs, hZ]; kernel_rfl
    exact fun u hu => List.all_eq_true.1 this u hu
  obtain ⟨A2, hA2⟩ : ∃ A2, A2 = (A1.toList.take (n - 1) ++ zs ++ A1.toList.drop (n - 1 + zs.length)).toArray := ⟨_, rfl⟩
  obtain ⟨W2, hW2⟩ : ∃ W2, W2 = W1.setRow g A2 := ⟨_, rfl⟩
  have hst := run_storeCells_at Tryz.prog g (n - 1) 23 zs 0 A1 W1 hg1 (by rw [hzl, hs1, hcs]; omega) hz1c
  have hcl : ∀ ty c, (Builtin.clear_ #[119] ty #[.slice (some ⟨g, n - 1, none⟩) 1 c]).run Tryz.prog W1 = .ok (.tuple #[]) W2 := fun ty c => by
    simp only [Nat.add_zero] at hst
    rw [← hA2, ← hW2] at hst
    rw [hzs] at hst
    simp [Builtin.clear_, run_underlying Tryz.underlying119, hzv, hst]
  have hg2 : W2.heap[g]? = some (.cells A2 23 (0, 0)) := by rw [hW2]; exact setRow_heap W1 g A1 A2 23 (0, 0) hg1
  have hwr : Wr w W2 (some g) := by
    rw [hW2, hW1]
    exact ((Wr.refl w (some g)).drew.trans (Wr.setRow w.drew A1) (fun i hi => .inl hi)).trans (Wr.setRow (w.drew.setRow g A1) A2) (fun i hi => .inl hi)
  have hfin : W2.ownsRow base 23 1 (.slice (some ⟨g, 0, none⟩) (n - 1) cap) (n - 1) (xs.take (i * 1) ++ xs.drop ((i + 1) * 1)) := by
    have ht : xs.take (i * 1) = cur.toList.take (i * 1) := by rw [← htake, List.take_take, Nat.min_eq_left (by omega)]
    refine ⟨by simp [hxl]; omega, .inr ⟨g, cap, A2, rfl, hbg, hg2, by omega, hcm, by rw [hA2]; simp; omega, ?_⟩⟩
    have hl2 : (cur.toList.take (i * 1) ++ news).length = (n - 1) * 1 := by rw [List.length_append, List.length_take, Array.length_toList, hnl]; omega
    rw [← hnews, ht, hA2]
    simp only [List.toList_toArray, List.append_assoc]
    rw [List.take_append_of_le_length (by rw [List.length_take, Array.length_toList]; omega), List.take_take, Nat.min_eq_left (by omega), hA1]
    simp only [List.toList_toArray]
    rw [List.take_append_of_le_length (by omega), List.take_of_length_le (by omega)]
  have HF := Lib.hid hfin
  have HW := Lib.hid hwr
  have HA := Lib.hid hA
  have hnm : ((n - 1 : Nat) : Int) < (n : Int) := by omega
  have hnm2 : ¬ cap = n - 1 := by omega
  have hnm3 : n - (n - 1) = 1 := by omega
  have hnm4 : ((n - 1 : Nat) : Int) ≤ (n : Int) := by omega
  clear hfin hwr hzv hZ hg2 hg1 hst hs1 hW2 hW1 hA2 hA1 hsrc hnl hn1 hnews hfit hg hcs htake h1 hxl hzl hz1c hzs
  go_enter Tryz.func165, Tryz.ntmps165
  go_wp2_with fail
  go_region_law (refine stepN_append_run _ rfl _ _ 119 119 rfl _ _ (by simp [Act.eval, Act.put]) (by simp [Act.eval, Act.put]) (hap _) ?_)
  go_wp2_with fail
  go_ret
  exact ⟨rfl, HF.out, HW.out⟩
inductive DelT (B : Nat) (k : ByteArray) : RT → RT → Prop
  | no {T : RT} (h : getE (entsT T) k = none) : DelT B k T T
  | same {h : Nat} {t u : PT h} (hg : (getE (ents h t) k).isSome = true) (hd : DelR B k h t u) (hp : 0 < (ents h u).length) (h2 : h = 0 ∨ 2 ≤ size h u) : DelT B k (some ⟨h, t⟩) (some ⟨h, u⟩)
  | gone {t u : PT 0} (hg : (getE (ents 0 t) k).isSome = true) (hd : DelR B k 0 t u) (h0 : ents 0 u = []) : DelT B k (some ⟨0, t⟩) none
  | down {h : Nat} {t : PT (h + 1)} {u : PT h} (hg : (getE (ents (h + 1) t) k).isSome = true) (hd : DelK B k h (DelR B k h) t.2 [u]) : DelT B k (some ⟨h + 1, t⟩) (some ⟨h, u⟩)
theorem DelT.mono {A B : Nat} (hAB : A ≤ B) {k : ByteArray} {T T' : RT} (hd : DelT B k T T') : DelT A k T T' := by
  cases hd with
  | no h => exact .no h
  | same hg hd hp h2 => exact .same hg (hd.mono hAB) hp h2
  | gone hg hd h0 => exact .gone hg (hd.mono hAB) h0
  | down hg hd => exact .down hg (hd.mono hAB fun _ _ hr => hr.mono hAB)
theorem getE_entsT (h : Nat) (t : PT h) : entsT (some ⟨h, t⟩) = Proofs.YtechahocffcbpaaGreatDoor.ents h t := rfl
theorem DelT.ents {B : Nat} {k : ByteArray} {T T' : RT} (hd : DelT B k T T') (ok : OkR T) : entsT T' = delE (entsT T) k := by
  cases hd with
  | no h => exact (delE_none h).symm
  | same hg hd hp h2 => exact hd.ents ok.1 ok.2.2
  | gone hg hd h0 => exact h0.symm.trans (hd.ents ok.1 ok.2.2)
  | down hg hd =>
    rename_i h t u
    have ok1 := ok.1
    have := hd.ents ok.2.2 (kids_pos ok1) (by have := ok1.1; omega) fun x y hx hr => hr.ents (ok1.2.2 x hx).1 (kid_sorted ok.2.2 x hx)
    rw [List.flatMap_cons, List.flatMap_nil, List.append_nil] at this
    exact this
theorem delK_root {B : Nat} {k : ByteArray} {h : Nat} {t : PT (h + 1)} {ks' : List (PT h)} (hd : DelK B k h (DelR B k h) t.2 ks') (ok : OkT (h + 1) t) (hs : Sorted (ents (h + 1) t)) (hg : (getE (ents (h + 1) t) k).isSome = true) :
    (∀ u ∈ ks', OkT h u ∧ 4 ≤ size h u) ∧ ks'.length ≤ t.2.length ∧ t.2.length ≤ ks'.length + 1 := by
  refine hd.ok ok.2.2 ok.1 fun x y hx hxk hr => ?_
  obtain ⟨kid2, hk2, hA, hC⟩ := which_split (h := h) (ks := t.2) hs (kids_pos ok) (by have := ok.1; omega) k
  rw [hxk] at hk2
  simp only [Option.some.injEq] at hk2
  subst hk2
  have := hr.ok (ok.2.2 x hx).1 (ok.2.2 x hx).2 (kid_sorted hs x hx) (by rw [← getE_kid hxk hA hC]; exact hg)
  exact ⟨this.1, this.2.1⟩
theorem DelT.ok {B : Nat} {k : ByteArray} {T T' : RT} (hd : DelT B k T T') (ok : OkR T) : OkR T' := by
  have hs : Sorted (entsT T') := by rw [hd.ents ok]; exact delE_sorted ok.sorted k
  cases hd with
  | no h => exact ok
  | same hg hd hp h2 =>
    rename_i h t u
    cases h with
    | zero =>
      have h1 := hd.1
      have : (delE t.2 k).length ≤ t.2.length := (delE_sublist t.2 k).length_le
      have o : t.2.length ≤ 8 := ok.1
      exact ⟨show u.2.length ≤ 8 by rw [h1]; omega, hp, hs⟩
    | succ h =>
      obtain ⟨h1, -⟩ := hd
      obtain ⟨a, b, c⟩ := delK_root h1 ok.1 ok.2.2 hg
      have h2 : 2 ≤ u.2.length := h2.resolve_left (by omega)
      have o8 := ok.1.2.1
      exact ⟨⟨h2, by omega, a⟩, show 1 ≤ u.2.length by omega, hs⟩
  | gone hg hd h0 => trivial
  | down hg hd =>
    obtain ⟨a, b, c⟩ := delK_root hd ok.1 ok.2.2 hg
    rename_i h t u
    have := a u (List.mem_singleton.2 rfl)
    exact ⟨this.1, by omega, hs⟩
def PairPost (F : Nat → Prop) (h : Nat) (l r : PT h) (w : World) (e : Ending) (w' : World) : Prop :=
  ∃ ts : List (PT h), e = two h ts ∧ PairR w.heap.size h l r ts ∧ (∀ u ∈ ts, IsN w' (Up F w w') h u)
theorem rd_es {w : World} {F : Nat → Prop} {s : Sl} {n : Nat} {xs : List LE} (hn : n = xs.length) (hr : Rd w F 7 s n (flatE xs)) (hv : Vals w F xs) (hf : xs.length ≤ 1000) : ES w F s xs := by
  subst hn
  exact ⟨hr, hv, by omega⟩
theorem mem_two {α : Type} {P : α → Prop} {x y : α} (hx : P x) (hy : P y) : ∀ u ∈ [x, y], P u := fun u hu => by
  rcases List.mem_cons.1 hu with rfl | hu
  · exact hx
  · obtain rfl := List.mem_singleton.1 hu; exact hy
theorem mem_one {α : Type} {P : α → Prop} {x : α} (hx : P x) : ∀ u ∈ [x], P u := fun u hu => by
  obtain rfl := List.mem_singleton.1 hu; exact hx
theorem leaf_b {w W : World} {G : Nat → Prop} {s : Sl} {n : Nat} {xs : List LE} (hW : St G w W) (hG : ∀ b, G b → b < w.heap.size) (hn : n = xs.length) (h8 : xs.length ≤ 8) (hr : Rd W (Lt W.heap.size) 7 s n (flatE xs)) (hv : Vals w (NH G w) xs) (hrise : risingN xs) :
    Calls Tryz.prog 106 #[.slice s.a n s.c] W (BPostE (fun a W' => w.heap.size ≤ a ∧ IsN W' (fun b => w.heap.size ≤ b ∧ b < W'.heap.size) 0 (a, xs.map LE.ent)) W) := by
  have hes : ES W (Lt W.heap.size) s xs := rd_es hn hr ((hv.agree hW.agree).mono fun i hi => Nat.lt_of_lt_of_le hi.1 hW.size) (by omega)
  refine (tleaf_any hes hn hrise h8).mono ?_
  rintro e w' ⟨t, rfl, h1, h2, h3, h4⟩
  refine ⟨addr 0 t, rfl, h2, ⟨Nat.le_trans hW.size h2, ?_⟩, h4⟩
  have e1 : t = (t.1, xs.map LE.ent) := by rw [← h1]; rfl
  rw [e1] at h3
  exact h3.mono fun i hi => ⟨Nat.le_trans hW.size hi.1, hi.2⟩
theorem isn_stay {w W W' : World} {G : Nat → Prop} (hG : ∀ b, G b → b < w.heap.size) {h : Nat} {t : PT h} (hn : IsN W (fun b => w.heap.size ≤ b ∧ b < W.heap.size) h t) (hs : St G W W') : IsN W' (fun b => w.heap.size ≤ b ∧ b < W'.heap.size) h t :=
  (hn.agree (hs.agree.mono fun i hi => ⟨hi.2, fun hh => by have := hG i hh; omega⟩)).mono fun i hi => ⟨hi.1, Nat.lt_of_lt_of_le hi.2 hs.size⟩
theorem pairE_any {w : World} {base : Nat} {sl sr : Sl} {xs ys : List LE} (hL : OE w base sl xs) (hR : OE w base sr ys) (hb : base ≤ w.heap.size) (hne : ∀ b, sl.row = some b → sr.row ≠ some b)
    (hvl : Vals w (NH (RowsE sl sr) w) xs) (hvr : Vals w (NH (RowsE sl sr) w) ys) (hrise : risingN (xs ++ ys)) (x8 : xs.length ≤ 8) (y8 : ys.length ≤ 8) (hx : xs.length + ys.length ≤ 11) {l r : PT 0} (el : xs.map LE.ent = l.2) (er : ys.map LE.ent = r.2) :
    Calls Tryz.prog 163 #[.slice sl.a xs.length sl.c, .slice sr.a ys.length sr.c, .func (.func 106) #[] #[]] w fun e w' => PairPost (fun _ => False) 0 l r w e w' ∧ St (RowsE sl sr) w w' := by
  have hG : ∀ b, RowsE sl sr b → b < w.heap.size := fun b hb => hb.elim (fun h => (own_row hL.own h).2) (fun h => (own_row hR.own h).2)
  have two_of : ∀ (w' : World) (a b : Nat) (zs zs' : List LE), (w.heap.size ≤ a ∧ IsN w' (fun b => w.heap.size ≤ b ∧ b < w'.heap.size) 0 (a, zs.map LE.ent)) → (w.heap.size ≤ b ∧ IsN w' (fun b => w.heap.size ≤ b ∧ b < w'.heap.size) 0 (b, zs'.map LE.ent)) →
      pairL l.2 r.2 = [zs.map LE.ent, zs'.map LE.ent] → PairPost (fun _ => False) 0 l r w (.returned (.tuple #[.pointer (some ⟨a, 0, none⟩), .pointer (some ⟨b, 0, none⟩)])) w' := fun w' a b zs zs' ha hb hp => by
    refine ⟨[((a, zs.map LE.ent) : PT 0), ((b, zs'.map LE.ent) : PT 0)], rfl, ⟨hp.symm, mem_two (α := PT 0) ha.1 hb.1⟩, mem_two (α := PT 0) (ha.2.mono fun i hi => .inr hi) (hb.2.mono fun i hi => .inr hi)⟩
  have e1 : l.2.length = xs.length := by rw [← el, List.length_map]
  have e2 : r.2.length = ys.length := by rw [← er, List.length_map]
  by_cases h4 : 4 < xs.length
  · obtain ⟨m, hm⟩ : ∃ m, xs.length = m + 1 := ⟨xs.length - 1, by omega⟩
    have t1 : (flatE xs).take (m * 7) = flatE (xs.take m) := flatE_take xs m
    have t2 : (flatE xs).drop (m * 7) ++ flatE ys = flatE (xs.drop m ++ ys) := by rw [flatE_drop, flatE_app]
    have hLo := hL.own
    rw [hm] at hLo ⊢
    refine (pairE_left (P1 := fun a W' => w.heap.size ≤ a ∧ IsN W' (fun b => w.heap.size ≤ b ∧ b < W'.heap.size) 0 (a, (xs.take m).map LE.ent)) (P2 := fun a W' => w.heap.size ≤ a ∧ IsN W' (fun b => w.heap.size ≤ b ∧ b < W'.heap.size) 0 (a, (xs.drop m ++ ys).map LE.ent))
      hLo hR.own hb hne (flatE_one xs) (flatE_one ys) trivial (by omega) (by omega) y8 (fun W s hW hr => ?_) (fun W s hW hr => ?_) (fun a W W' _ h hs => ⟨h.1, isn_stay hG h.2 hs⟩)).mono ?_
    · rw [t1] at hr
      exact leaf_b hW hG (by rw [List.length_take]; omega) (by rw [List.length_take]; omega) hr (fun x hx => hvl x (List.mem_of_mem_take hx)) (by have := hrise.take m; rwa [List.take_append_of_le_length (by omega)] at this)
    · rw [t2] at hr
      exact leaf_b hW hG (by rw [List.length_append, List.length_drop]; omega) (by rw [List.length_append, List.length_drop]; omega) hr (fun x hx => by
        rcases List.mem_append.1 hx with hx | hx
        · exact hvl x (List.mem_of_mem_drop hx)
        · exact hvr x hx) (by have := hrise.drop m; rwa [List.drop_append_of_le_length (by omega)] at this)
    · rintro e w' ⟨a, b, rfl, -, -, h1, h2, hs⟩
      refine ⟨two_of w' a b _ _ h1 h2 ?_, hs⟩
      rw [pairL, if_pos (by omega), ← el, ← er, List.map_append, List.map_take, List.map_drop, List.length_map, hm]
      rfl
  · by_cases h5 : 4 < ys.length
    · obtain ⟨m, hm⟩ : ∃ m, ys.length = m + 1 := ⟨ys.length - 1, by omega⟩
      have t1 : flatE xs ++ (flatE ys).take 7 = flatE (xs ++ ys.take 1) := by rw [flatE_app, ← flatE_take]
      have t2 : (flatE ys).drop 7 = flatE (ys.drop 1) := by rw [← flatE_drop]
      have hRo := hR.own
      rw [hm] at hRo ⊢
      refine (pairE_right (P1 := fun a W' => w.heap.size ≤ a ∧ IsN W' (fun b => w.heap.size ≤ b ∧ b < W'.heap.size) 0 (a, (xs ++ ys.take 1).map LE.ent)) (P2 := fun a W' => w.heap.size ≤ a ∧ IsN W' (fun b => w.heap.size ≤ b ∧ b < W'.heap.size) 0 (a, (ys.drop 1).map LE.ent))
        hL.own hRo hb hne (flatE_one xs) (flatE_one ys) trivial (by omega) (by omega) (by omega) (fun W s hW hr => ?_) (fun W s hW hr => ?_) (fun a W W' _ h hs => ⟨h.1, isn_stay hG h.2 hs⟩)).mono ?_
      · rw [t1] at hr
        exact leaf_b hW hG (by rw [List.length_append, List.length_take]; omega) (by rw [List.length_append, List.length_take]; omega) hr (fun x hx => by
          rcases List.mem_append.1 hx with hx | hx
          · exact hvl x hx
          · exact hvr x (List.mem_of_mem_take hx)) (by have := hrise.take (xs.length + 1); rwa [List.take_length_add_append] at this)
      · rw [t2] at hr
        exact leaf_b hW hG (by rw [List.length_drop]; omega) (by rw [List.length_drop]; omega) hr (fun x hx => hvr x (List.mem_of_mem_drop hx)) (by have := hrise.drop (xs.length + 1); rwa [List.drop_length_add_append] at this)
      · rintro e w' ⟨a, b, rfl, -, -, h1, h2, hs⟩
        refine ⟨two_of w' a b _ _ h1 h2 ?_, hs⟩
        rw [pairL, if_neg (by omega), if_pos (by omega), ← el, ← er, List.map_append, List.map_take, List.map_drop]
    · have t1 : flatE xs ++ flatE ys = flatE (xs ++ ys) := by rw [flatE_app]
      refine (pairE_both (P1 := fun a W' => w.heap.size ≤ a ∧ IsN W' (fun b => w.heap.size ≤ b ∧ b < W'.heap.size) 0 (a, (xs ++ ys).map LE.ent)) hL.own hR.own hb (flatE_one ys) (by omega) (by omega) (fun W s hW hr => ?_)).mono ?_
      · rw [t1] at hr
        exact leaf_b hW hG (by rw [List.length_append]) (by rw [List.length_append]; omega) hr (fun x hx => by
          rcases List.mem_append.1 hx with hx | hx
          · exact hvl x hx
          · exact hvr x hx) hrise
      · rintro e w' ⟨a, rfl, -, h1, hs⟩
        refine ⟨⟨[((a, (xs ++ ys).map LE.ent) : PT 0)], rfl, ⟨?_, mem_one (α := PT 0) h1.1⟩, mem_one (α := PT 0) (h1.2.mono fun i hi => .inr hi)⟩, hs⟩
        · show [(xs ++ ys).map LE.ent] = _
          rw [pairL, if_neg (by omega), if_neg (by omega), ← el, ← er, List.map_append]
theorem isn_stay2 {w W W' : World} {F G : Nat → Prop} (hG : ∀ b, G b → b < w.heap.size) (hF : ∀ b, F b → b < w.heap.size ∧ ¬ G b) (hw : w.heap.size ≤ W.heap.size) {h : Nat} {t : PT h} (hn : IsN W (Up F w W) h t) (hs : St G W W') : IsN W' (Up F w W') h t :=
  (hn.agree (hs.agree.mono fun i hi => hi.elim (fun h => ⟨Nat.lt_of_lt_of_le (hF i h).1 hw, (hF i h).2⟩) fun h => ⟨h.2, fun hh => by have := hG i hh; omega⟩)).mono fun i hi => hi.imp_right fun h => ⟨h.1, Nat.lt_of_lt_of_le h.2 hs.size⟩
theorem inner_b {w W : World} {F G : Nat → Prop} {h : Nat} {s : Sl} {n : Nat} {ks : List (PT h)} (hW : St G w W) (hF : ∀ b, F b → ¬ G b) (hn : n = ks.length) (h2 : 2 ≤ ks.length) (h8 : ks.length ≤ 8) (hr : Rd W (Lt W.heap.size) 1 s n (ptrs h ks)) (hk : Kids w F h ks) :
    Calls Tryz.prog 67 #[.slice s.a n s.c] W (BPostN (fun a W' => w.heap.size ≤ a ∧ IsN W' (Up F w W') (h + 1) (a, ks)) W) := by
  subst hn
  have hk' : Kids W F h ks := ⟨fun b hb => Nat.lt_of_lt_of_le (hk.lt b hb) hW.size, fun x hx => (hk.isn x hx).agree (hW.agree.mono fun i hi => ⟨hk.lt i hi, hF i hi⟩), hk.rise, hk.pos, hk.sz, hk.cn, hk.hh⟩
  refine (tinner_any hr rfl hk' h2 h8).mono ?_
  rintro e w' ⟨t, rfl, h1, h2, h3, h4⟩
  refine ⟨addr (h + 1) t, rfl, h2, ⟨Nat.le_trans hW.size h2, ?_⟩, h4⟩
  have e1 : t = (t.1, ks) := by subst h1; rfl
  rw [e1] at h3
  exact h3.mono fun i hi => hi.imp_right fun h => ⟨Nat.le_trans hW.size h.1, h.2⟩
theorem ptrs_ptr (h : Nat) (ks : List (PT h)) : ∀ u ∈ ptrs h ks, ∃ p, u = Value.pointer p := fun u hu => by
  obtain ⟨k, -, rfl⟩ := List.mem_map.1 hu
  exact ⟨_, rfl⟩
theorem ptrs_app (h : Nat) (a b : List (PT h)) : ptrs h (a ++ b) = ptrs h a ++ ptrs h b := by simp [ptrs]
theorem ptrs_drop (h : Nat) (a : List (PT h)) (i : Nat) : ptrs h (a.drop i) = (ptrs h a).drop i := by simp [ptrs, List.map_drop]
theorem pairN_any {w : World} {F : Nat → Prop} {base h : Nat} {sl sr : Sl} {l r : PT (h + 1)} (hL : w.ownsRow base 23 1 (.slice sl.a l.2.length sl.c) l.2.length (ptrs h l.2)) (hR : w.ownsRow base 23 1 (.slice sr.a r.2.length sr.c) r.2.length (ptrs h r.2)) (hb : base ≤ w.heap.size) (hne : ∀ b, sl.row = some b → sr.row ≠ some b)
    (hF : ∀ b, F b → ¬ RowsN sl sr b) (hk : Kids w F h (l.2 ++ r.2)) (l2 : 3 ≤ l.2.length) (r2 : 3 ≤ r.2.length) (l8 : l.2.length ≤ 8) (r8 : r.2.length ≤ 8) (hx : l.2.length + r.2.length ≤ 11) :
    Calls Tryz.prog 164 #[.slice sl.a l.2.length sl.c, .slice sr.a r.2.length sr.c, .func (.func 67) #[] #[]] w fun e w' => PairPost F (h + 1) l r w e w' ∧ St (RowsN sl sr) w w' := by
  have hG : ∀ b, RowsN sl sr b → b < w.heap.size := fun b hb => hb.elim (fun h => (own_row hL h).2) (fun h => (own_row hR h).2)
  have hF2 : ∀ b, F b → b < w.heap.size ∧ ¬ RowsN sl sr b := fun b hb => ⟨hk.lt b hb, hF b hb⟩
  have two_of : ∀ (w' : World) (a b : Nat) (zs zs' : List (PT h)), (w.heap.size ≤ a ∧ IsN w' (Up F w w') (h + 1) (a, zs)) → (w.heap.size ≤ b ∧ IsN w' (Up F w w') (h + 1) (b, zs')) →
      pairL l.2 r.2 = [zs, zs'] → PairPost F (h + 1) l r w (.returned (.tuple #[.pointer (some ⟨a, 0, none⟩), .pointer (some ⟨b, 0, none⟩)])) w' := fun w' a b zs zs' ha hb hp => by
    refine ⟨[((a, zs) : PT (h + 1)), ((b, zs') : PT (h + 1))], rfl, ⟨hp.symm, mem_two (α := PT (h + 1)) ha.1 hb.1⟩, mem_two (α := PT (h + 1)) ha.2 hb.2⟩
  by_cases h4 : 4 < l.2.length
  · obtain ⟨m, hm⟩ : ∃ m, l.2.length = m + 1 := ⟨l.2.length - 1, by omega⟩
    have t1 : (ptrs h l.2).take (m * 1) = ptrs h (l.2.take m) := by rw [Nat.mul_one, ptrs_take]
    have t2 : (ptrs h l.2).drop (m * 1) ++ ptrs h r.2 = ptrs h (l.2.drop m ++ r.2) := by rw [ptrs_app, ptrs_drop, Nat.mul_one]
    have hLo := hL
    rw [hm] at hLo ⊢
    refine (pairN_left (P1 := fun a W' => w.heap.size ≤ a ∧ IsN W' (Up F w W') (h + 1) (a, l.2.take m)) (P2 := fun a W' => w.heap.size ≤ a ∧ IsN W' (Up F w W') (h + 1) (a, l.2.drop m ++ r.2))
      hLo hR hb hne (ptrs_one h l.2) (ptrs_one h r.2) (ptrs_ptr h l.2) (by omega) (by omega) r8 (fun W s hW hr => ?_) (fun W s hW hr => ?_) (fun a W W' hw h hs => ⟨h.1, isn_stay2 hG hF2 hw.size h.2 hs⟩)).mono ?_
    · rw [t1] at hr
      exact inner_b hW hF (by rw [List.length_take]; omega) (by rw [List.length_take]; omega) (by rw [List.length_take]; omega) hr (by have := hk.take m; rwa [List.take_append_of_le_length (by omega)] at this)
    · rw [t2] at hr
      exact inner_b hW hF (by rw [List.length_append, List.length_drop]; omega) (by rw [List.length_append, List.length_drop]; omega) (by rw [List.length_append, List.length_drop]; omega) hr (by have := hk.drop m; rwa [List.drop_append_of_le_length (by omega)] at this)
    · rintro e w' ⟨a, b, rfl, -, -, h1, h2, hs⟩
      refine ⟨two_of w' a b _ _ h1 h2 ?_, hs⟩
      rw [pairL, if_pos (by omega), hm]
      rfl
  · by_cases h5 : 4 < r.2.length
    · obtain ⟨m, hm⟩ : ∃ m, r.2.length = m + 1 := ⟨r.2.length - 1, by omega⟩
      have t1 : ptrs h l.2 ++ (ptrs h r.2).take 1 = ptrs h (l.2 ++ r.2.take 1) := by rw [ptrs_app, ptrs_take]
      have t2 : (ptrs h r.2).drop 1 = ptrs h (r.2.drop 1) := by rw [ptrs_drop]
      have hRo := hR
      rw [hm] at hRo ⊢
      refine (pairN_right (P1 := fun a W' => w.heap.size ≤ a ∧ IsN W' (Up F w W') (h + 1) (a, l.2 ++ r.2.take 1)) (P2 := fun a W' => w.heap.size ≤ a ∧ IsN W' (Up F w W') (h + 1) (a, r.2.drop 1))
        hL hRo hb hne (ptrs_one h l.2) (ptrs_one h r.2) (ptrs_ptr h r.2) (by omega) (by omega) (by omega) (fun W s hW hr => ?_) (fun W s hW hr => ?_) (fun a W W' hw h hs => ⟨h.1, isn_stay2 hG hF2 hw.size h.2 hs⟩)).mono ?_
      · rw [t1] at hr
        exact inner_b hW hF (by rw [List.length_append, List.length_take]; omega) (by rw [List.length_append, List.length_take]; omega) (by rw [List.length_append, List.length_take]; omega) hr (by have := hk.take (l.2.length + 1); rwa [List.take_length_add_append] at this)
      · rw [t2] at hr
        exact inner_b hW hF (by rw [List.length_drop]; omega) (by rw [List.length_drop]; omega) (by rw [List.length_drop]; omega) hr (by have := hk.drop (l.2.length + 1); rwa [List.drop_length_add_append] at this)
      · rintro e w' ⟨a, b, rfl, -, -, h1, h2, hs⟩
        refine ⟨two_of w' a b _ _ h1 h2 ?_, hs⟩
        rw [pairL, if_neg (by omega), if_pos (by omega)]
    · have t1 : ptrs h l.2 ++ ptrs h r.2 = ptrs h (l.2 ++ r.2) := by rw [ptrs_app]
      refine (pairN_both (P1 := fun a W' => w.heap.size ≤ a ∧ IsN W' (Up F w W') (h + 1) (a, l.2 ++ r.2)) hL hR hb (ptrs_one h r.2) (by omega) (by omega) (fun W s hW hr => ?_)).mono ?_
      · rw [t1] at hr
        exact inner_b hW hF (by rw [List.length_append]) (by rw [List.length_append]; omega) (by rw [List.length_append]; omega) hr hk
      · rintro e w' ⟨a, rfl, -, h1, hs⟩
        refine ⟨⟨[((a, l.2 ++ r.2) : PT (h + 1))], rfl, ⟨?_, mem_one (α := PT (h + 1)) h1.1⟩, mem_one (α := PT (h + 1)) h1.2⟩, hs⟩
        · show [l.2 ++ r.2] = _
          rw [pairL, if_neg (by omega), if_neg (by omega)]
def MendPost (F : Nat → Prop) (base h : Nat) (s : Sl) (ks : List (PT h)) (i : Nat) (w : World) (e : Ending) (w' : World) : Prop :=
  ∃ (s' : Sl) (ks' : List (PT h)), e = .returned (.slice s'.a ks'.length s'.c) ∧ w'.ownsRow base 23 1 (.slice s'.a ks'.length s'.c) ks'.length (ptrs h ks') ∧ Mend w.heap.size h ks i ks' ∧ (∀ u ∈ ks', IsN w' (Up F w w') h u) ∧ St (fun b => s.row = some b) w w'
structure MendIn (w : World) (F : Nat → Prop) (base h : Nat) (s : Sl) (ks : List (PT h)) (i : Nat) (l r : PT h) : Prop where
  own : w.ownsRow base 23 1 (.slice s.a ks.length s.c) ks.length (ptrs h ks)
  base : base ≤ w.heap.size
  lt : ∀ b, F b → b < w.heap.size ∧ s.row ≠ some b
  isn : ∀ k ∈ ks, IsN w F h k
  ok : ∀ k ∈ ks, OkT h k ∧ 3 ≤ size h k
  hl : ks[i - 1]? = some l
  hr : ks[i - 1 + 1]? = some r
  sum : size h l + size h r ≤ 11
  sorted : Sorted (ks.flatMap (ents h))
  few : (ks.flatMap (ents h)).length ≤ 1000000
  n8 : ks.length ≤ 8
  hh : h ≤ 1000000
theorem two_sorted {h : Nat} {ks : List (PT h)} {j : Nat} {l r : PT h} (hs : Sorted (ks.flatMap (ents h))) (hl : ks[j]? = some l) (hr : ks[j + 1]? = some r) : Sorted (ents h l ++ ents h r) := by
  rw [two_mid hl hr] at hs
  simp only [List.flatMap_append, List.flatMap_cons] at hs
  have h2 := (sorted_app hs).2.1
  rw [← List.append_assoc] at h2
  exact (sorted_app h2).1
theorem two_few {h : Nat} {ks : List (PT h)} {j : Nat} {l r : PT h} (hl : ks[j]? = some l) (hr : ks[j + 1]? = some r) : (ents h l).length + (ents h r).length ≤ (ks.flatMap (ents h)).length := by
  conv => rhs; rw [two_mid hl hr]
  simp only [List.flatMap_append, List.flatMap_cons, List.length_append]; omega
theorem mend_list {α : Type} {ks : List α} {j : Nat} {l r : α} (hl : ks[j]? = some l) (hr : ks[j + 1]? = some r) (a b : α) : (ks.set j a).set (j + 1) b = ks.take j ++ [a, b] ++ ks.drop (j + 2) := by
  have h1 := (List.getElem?_eq_some_iff.1 hl).1
  have h2 := (List.getElem?_eq_some_iff.1 hr).1
  conv => lhs; rw [two_mid hl hr]
  rw [List.set_append_right _ _ (by rw [List.length_take]; omega), List.length_take, Nat.min_eq_left (by omega), Nat.sub_self, List.set_cons_zero, List.set_append_right _ _ (by rw [List.length_take]; omega), List.length_take, Nat.min_eq_left (by omega), show j + 1 - j = 1 from by omega]
  simp
theorem mend_list1 {α : Type} {ks : List α} {j : Nat} {l r : α} (hl : ks[j]? = some l) (hr : ks[j + 1]? = some r) (a : α) : (ks.set j a).take (j + 1) ++ (ks.set j a).drop (j + 2) = ks.take j ++ [a] ++ ks.drop (j + 2) := by
  have h1 := (List.getElem?_eq_some_iff.1 hl).1
  rw [List.set_eq_take_append_cons_drop, if_pos h1]
  have hl1 : (ks.take j ++ [a]).length = j + 1 := by simp; omega
  have e1 : ks.take j ++ a :: ks.drop (j + 1) = (ks.take j ++ [a]) ++ ks.drop (j + 1) := by simp
  rw [e1, List.take_append_of_le_length (by omega), List.take_of_length_le (by omega), show j + 2 = (ks.take j ++ [a]).length + 1 from by omega, List.drop_length_add_append, List.drop_drop, hl1]
theorem own_base {w : World} {A B e size n : Nat} {v : Value} {xs : List Value} (h : w.ownsRow B e size v n xs) (hAB : A ≤ B) : w.ownsRow A e size v n xs := by
  refine ⟨h.1, ?_⟩
  rcases h.2 with hl | ⟨g, cap, cur, hv, hg, r⟩
  · exact .inl hl
  · exact .inr ⟨g, cap, cur, hv, Nat.le_trans hAB hg, r⟩
theorem OE.base {w : World} {A B : Nat} {s : Sl} {xs : List LE} (h : OE w B s xs) (hAB : A ≤ B) : OE w A s xs := ⟨own_base h.own hAB, h.vals.mono fun i hi => ⟨⟨Nat.le_trans hAB hi.1.1, hi.1.2⟩, hi.2⟩, h.few⟩
theorem mend_zero0 {w : World} {F : Nat → Prop} {base : Nat} {s : Sl} {ks : List (PT (0))} {l r : PT (0)} (hm : MendIn w F base (0) s ks (0) l r) :
    Calls Tryz.prog 111 #[.slice s.a ks.length s.c, .int .i64 0] w (MendPost F base (0) s ks (0) w) := by
  have hj : 1 < ks.length := (List.getElem?_eq_some_iff.1 hm.hr).1
  obtain ⟨g, cap, rfl, hbg, hnc, hcm, hfil⟩ := own_block hm.own (by omega)
  have hown := hm.own
  have HM := Lib.hid hm
  have hml : ks[0]? = some l := hm.hl
  have hmr : ks[1]? = some r := hm.hr
  have cc : ∀ q u, (ptrs (0) ks)[q]? = some u → w.cell? ⟨g, q, none⟩ = some u := fun q u hq => by
    have := hown.cells (g := g) rfl q u hq
    rwa [add_at, Nat.zero_add] at this
  have cl : w.cell? ⟨g, 0, none⟩ = some (ptr (0) l) := cc 0 _ (by rw [ptrs, List.getElem?_map, hml]; rfl)
  have cr : w.cell? ⟨g, 1, none⟩ = some (ptr (0) r) := cc (1) _ (by rw [ptrs, List.getElem?_map, hmr]; rfl)
  have hlm := List.mem_of_getElem? hml
  have hrm := List.mem_of_getElem? hmr
  have hgl := hfil.lt
  have hn8 := hm.n8
  have hj1 : (0 : Int) < (ks.length : Int) := by omega
  have hj2 : (1 : Int) < (ks.length : Int) := by omega
  have hz : True := trivial
  have HH0 := Lib.hid (fun W (hW : Agree F w W) => height_any ((hm.isn l hlm).agree hW))
  have HCL := Lib.hid hml
  have HCR := Lib.hid hmr
  have HFZ := Lib.hid hfil.frozen
  clear hown cc hfil hm hml hmr hlm hrm
  go_enter Tryz.func111, Tryz.ntmps111
  go_wp2_with fail
  go_quiet (fail)
  go_wp2_with fail
  have hxW : Ext w (w.drewN nq) := (Ext.refl w).drewN nq
  refine (HH0.out _ (Agree.drewN w nq)).mono ?_
  rintro e w0 ⟨rfl, rfl⟩
  generalize w.drewN nq = W at *
  clear cl cr
  have hne1 := entries_any (w := W) ((((HM.out.isn l (List.mem_of_getElem? HCL.out)).agree (hxW.agree fun b hb => (HM.out.lt b hb).1))).mono fun b hb => Nat.lt_of_lt_of_le (HM.out.lt b hb).1 hxW.size)
  have hne2 : ∀ W', Ext W W' → Calls Tryz.prog 88 #[ptr 0 r] W' (EntriesPost (ents 0 r) W') := fun W' hW' => entries_any ((((HM.out.isn r (List.mem_of_getElem? HCR.out)).agree ((hxW.trans hW').agree fun b hb => (HM.out.lt b hb).1))).mono fun b hb => Nat.lt_of_lt_of_le (HM.out.lt b hb).1 (hxW.trans hW').size)
  have HE2 := Lib.hid hne2
  have HXW := Lib.hid hxW
  clear hne2 hxW
  go_wp2_with fail
  refine hne1.mono ?_
  intro e w1 hp
  obtain ⟨sx, xs, rfl, hxs, hox, hx1⟩ := hp
  have HXS := Lib.hid hxs
  have HOX := Lib.hid hox
  have HX1 := Lib.hid hx1
  have he2 := HE2.out w1 hx1
  clear hne1 hxs hox hx1
  go_wp2_with fail
  refine he2.mono ?_
  intro e w2 hp
  obtain ⟨sy, ys, rfl, hys, hoy, hx2⟩ := hp
  have hrx : ∀ b, sx.row = some b → W.heap.size ≤ b ∧ b < w1.heap.size := fun b hb => own_row HOX.out.own hb
  have hry : ∀ b, sy.row = some b → w1.heap.size ≤ b ∧ b < w2.heap.size := fun b hb => own_row hoy.own hb
  have hs1 := HX1.out.size
  have hs2 := hx2.size
  have hox2 := HOX.out.ext hx2
  have hoy2 : OE w2 W.heap.size sy ys := hoy.base hs1
  have hl8 : xs.length ≤ 8 := by have := (HM.out.ok l (List.mem_of_getElem? HCL.out)).1; have e1 : xs.length = l.2.length := by rw [show l.2 = ents 0 l from rfl, ← HXS.out, List.length_map]
                                 rw [e1]; exact this
  have hr8 : ys.length ≤ 8 := by have := (HM.out.ok r (List.mem_of_getElem? HCR.out)).1; have e1 : ys.length = r.2.length := by rw [show r.2 = ents 0 r from rfl, ← hys, List.length_map]
                                 rw [e1]; exact this
  have hsum : xs.length + ys.length ≤ 11 := by
    have e1 : xs.length = size 0 l := by rw [show size 0 l = (ents 0 l).length from rfl, ← HXS.out, List.length_map]
    have e2 : ys.length = size 0 r := by rw [show size 0 r = (ents 0 r).length from rfl, ← hys, List.length_map]
    rw [e1, e2]; exact HM.out.sum
  have hrise : risingN (xs ++ ys) := risingN_of (by rw [List.map_append, HXS.out, hys]; exact two_sorted HM.out.sorted HCL.out HCR.out)
  have hpr := pairE_any hox2 hoy2 (Nat.le_trans hs1 hs2) (fun b hb hb' => by have := hrx b hb; have := hry b hb'; omega)
    (fun x hx => ⟨((HOX.out.vals x hx).1.agree (hx2.agree fun b hb => hb.1.2)).mono fun b hb => ⟨Nat.lt_of_lt_of_le hb.1.2 hs2, fun h => h.elim (fun h => hb.2 h) (fun h => by have := hry b h; have := hb.1.2; omega)⟩, (HOX.out.vals x hx).2⟩)
    (fun x hx => ⟨(hoy.vals x hx).1.mono fun b hb => ⟨hb.1.2, fun h => h.elim (fun h => by have := hrx b h; have := hb.1.1; omega) (fun h => hb.2 h)⟩, (hoy.vals x hx).2⟩)
    hrise hl8 hr8 hsum (l := l) (r := r) HXS.out hys
  have hX2 := HXW.out.trans (HX1.out.trans hx2)
  have HX2 := Lib.hid hX2
  have HRX := Lib.hid hrx
  have HRY := Lib.hid hry
  have hsW := HXW.out.size
  clear he2 hys hoy hx2 hrx hry hox2 hoy2 hrise hl8 hr8 hsum hX2
  go_wp2_with fail
  refine hpr.mono ?_
  rintro e w3 ⟨⟨ts, rfl, hP, hI⟩, hst⟩
  have HALL : Hid (Ext w w3 ∧ PairR w.heap.size 0 l r ts ∧ ∀ u ∈ ts, IsN w3 (Up F w w3) 0 u) := Lib.hid ⟨HX2.out.step hst (fun b hb => hb.elim (fun h => by have := HRX.out b h; omega) (fun h => by have := HRY.out b h; omega)), hP.mono (HX2.out.size), fun u hu => (hI u hu).mono fun i hi => hi.elim (fun h => h.elim) fun h => .inr ⟨Nat.le_trans HX2.out.size h.1, h.2⟩⟩
  clear hpr hP hI hst
  obtain ⟨hX3, hP, hI⟩ := HALL.out
  have hown3 : w3.ownsRow base 23 1 (.slice (some ⟨g, 0, none⟩) ks.length cap) ks.length (ptrs (0) ks) := own_agree (s := ⟨some ⟨g, 0, none⟩, cap⟩) HM.out.own (hX3.agree (F := Lt w.heap.size) fun _ h => h) fun b hb => (own_row HM.out.own hb).2
  have hfz3 : ∀ o, w3.frozen? ⟨g, o, none⟩ = false := fun o => (hX3.frozen hgl).trans (HFZ.out o)
  have hcc : ∀ q u, (ptrs (0) ks)[q]? = some u → w3.cell? ⟨g, q, none⟩ = some u := fun q u hq => by
    have := hown3.cells (g := g) rfl q u hq
    rwa [add_at, Nat.zero_add] at this
  have dl : w3.cell? ⟨g, 0, none⟩ = some (ptr (0) l) := hcc 0 _ (by rw [ptrs, List.getElem?_map, HCL.out]; rfl)
  have dr : w3.cell? ⟨g, 1, none⟩ = some (ptr (0) r) := hcc (1) _ (by rw [ptrs, List.getElem?_map, HCR.out]; rfl)
  have hlj : 0 < ks.length := by omega
  have HOWN3 := Lib.hid hown3
  have HX3 := Lib.hid hX3
  have HP := Lib.hid hP
  have HI := Lib.hid hI
  have hlen := hP.len
  have hFG : ∀ W' x, F x ∨ (w.heap.size ≤ x ∧ x < W') → x ≠ g := fun W' x hx e => by
    subst e
    rcases hx with h | h
    · exact (HM.out.lt x h).2 rfl
    · omega
  have hF2 : ∀ x, F x → x < w.heap.size := fun x hx => (HM.out.lt x hx).1
  have hIK : ∀ k ∈ ks, IsN w3 (Up F w w3) (0) k := fun k hk => ((HM.out.isn k hk).agree (hX3.agree hF2)).mono fun i hi => .inl hi
  have HIK := Lib.hid hIK
  have HFG := Lib.hid hFG
  clear hown3 hcc hX3 hP hI hIK hFG
  rcases hlen with hlen | hlen
  · obtain ⟨a, rfl⟩ := List.length_eq_one_iff.1 hlen
    rw [show two (0) [a] = Ending.returned (.tuple #[ptr (0) a, .pointer none]) from rfl]
    have hfin : ∀ w5, Wr (w3.setCell ⟨g, 0, none⟩ (ptr (0) a)) w5 (some g) → w5.ownsRow base 23 1 (.slice (some ⟨g, 0, none⟩) (ks.length - 1) cap) (ks.length - 1) (((ptrs (0) ks).set 0 (ptr (0) a)).take ((1) * 1) ++ ((ptrs (0) ks).set 0 (ptr (0) a)).drop ((1 + 1) * 1)) →
        MendPost F base (0) ⟨some ⟨g, 0, none⟩, cap⟩ ks (0) w (.returned (.slice (some ⟨g, 0, none⟩) (ks.length - 1) cap)) w5 := fun w5 hwr hown => by
      have hz : w3.heap.size ≤ w5.heap.size := by have := hwr.grown.size; rwa [World.size_setCell] at this
      have hag : Agree (Up F w w3) w3 w5 := (Agree.setCell w3 ⟨g, 0, none⟩ _ (fun h => HFG.out _ g h rfl)).trans (hwr.agree (fun i hi => by rw [World.size_setCell]; exact hi.elim (fun h => Nat.lt_of_lt_of_le (hF2 i h) HX3.out.size) fun h => h.2) (fun k hk h => by cases hk; exact HFG.out _ g h rfl))
      have hup : ∀ i, Up F w w3 i → Up F w w5 i := fun i hi => hi.imp_right fun h => ⟨h.1, Nat.lt_of_lt_of_le h.2 hz⟩
      have e0 : (ptrs (0) ks).set 0 (ptr (0) a) = ptrs (0) (ks.set 0 a) := by rw [ptrs, ptrs, List.map_set]
      have e1 : ((ptrs (0) ks).set 0 (ptr (0) a)).take ((1) * 1) ++ ((ptrs (0) ks).set 0 (ptr (0) a)).drop ((1 + 1) * 1) = ptrs (0) (ks.take 0 ++ [a] ++ ks.drop (0 + 2)) := by
        rw [e0, Nat.mul_one, Nat.mul_one, ← ptrs_take, ← ptrs_drop, ← ptrs_app, mend_list1 HCL.out HCR.out]
      have e2 : (ks.take 0 ++ [a] ++ ks.drop (0 + 2)).length = ks.length - 1 := by simp only [List.length_append, List.length_take, List.length_drop, List.length_cons, List.length_nil]; omega
      rw [e1] at hown
      refine ⟨⟨some ⟨g, 0, none⟩, cap⟩, ks.take 0 ++ [a] ++ ks.drop (0 + 2), by rw [e2], by rw [e2]; exact hown, ⟨l, r, [a], HCL.out, HCR.out, HP.out, rfl⟩, fun u hu => ?_, (((HX3.out.st (fun b => (⟨some ⟨g, 0, none⟩, cap⟩ : Sl).row = some b)).set (p := ⟨g, 0, none⟩) (.inr rfl) _).trans (hwr.st fun i hi => hi))⟩
      refine IsN.mono hup (IsN.agree hag ?_)
      rcases List.mem_append.1 hu with hu | hu
      · rcases List.mem_append.1 hu with hu | hu
        · exact HIK.out u (List.mem_of_mem_take hu)
        · exact HI.out u hu
      · exact HIK.out u (List.mem_of_mem_drop hu)
    have hd := delN_any (s := ⟨some ⟨g, 0, none⟩, cap⟩) (n := ks.length) (xs := (ptrs (0) ks).set 0 (ptr (0) a)) (i := 1) (own_set HOWN3.out hlj (ptr (0) a)) (by omega) (by omega) (fun u hu => by
      rcases List.mem_or_eq_of_mem_set hu with hu | rfl
      · exact ptrs_one (0) ks u hu
      · rfl)
    have q1 : ((1 : Nat) : Int) = (1 : Int) := by omega
    have q2 : (1 : Int) + 1 = (2 : Int) := by omega
    rw [q1, q2] at hd
    have HD := Lib.hid hd
    have HFIN := Lib.hid hfin
    clear hd hfin q1 q2 hF2
    go_wp2_with fail
    refine HD.out.mono ?_
    rintro e w5 ⟨rfl, hown5, hwr5⟩
    have HO5 := Lib.hid (HFIN.out w5 hwr5 hown5)
    clear hown5 hwr5
    go_wp2_with fail
    go_ret
    exact HO5.out
  · obtain ⟨a, b, rfl⟩ : ∃ a b, ts = [a, b] := by
      match ts, hlen with
      | [a, b], _ => exact ⟨a, b, rfl⟩
    rw [show two (0) [a, b] = Ending.returned (.tuple #[ptr (0) a, ptr (0) b]) from rfl]
    have hfin : MendPost F base (0) ⟨some ⟨g, 0, none⟩, cap⟩ ks (0) w (.returned (.slice (some ⟨g, 0, none⟩) ks.length cap)) ((w3.setCell ⟨g, 0, none⟩ (ptr (0) a)).setCell ⟨g, 1, none⟩ (ptr (0) b)) := by
      have hag : Agree (Up F w w3) w3 ((w3.setCell ⟨g, 0, none⟩ (ptr (0) a)).setCell ⟨g, 1, none⟩ (ptr (0) b)) := (Agree.setCell w3 ⟨g, 0, none⟩ _ (fun h => HFG.out _ g h rfl)).trans (Agree.setCell _ ⟨g, 1, none⟩ _ (fun h => HFG.out _ g h rfl))
      have e0 : ((ptrs (0) ks).set 0 (ptr (0) a)).set (1) (ptr (0) b) = ptrs (0) ((ks.set 0 a).set (1) b) := by rw [ptrs, ptrs, List.map_set, List.map_set]
      have e2 : (ks.take 0 ++ [a, b] ++ ks.drop (0 + 2)).length = ks.length := by simp only [List.length_append, List.length_take, List.length_drop, List.length_cons, List.length_nil]; omega
      have hown := own_set (own_set HOWN3.out hlj (ptr (0) a)) (i := 1) (by omega) (ptr (0) b)
      rw [e0, mend_list HCL.out HCR.out] at hown
      refine ⟨⟨some ⟨g, 0, none⟩, cap⟩, ks.take 0 ++ [a, b] ++ ks.drop (0 + 2), by rw [e2], by rw [e2]; exact hown, ⟨l, r, [a, b], HCL.out, HCR.out, HP.out, rfl⟩, fun u hu => ?_, (((HX3.out.st (fun b => (⟨some ⟨g, 0, none⟩, cap⟩ : Sl).row = some b)).set (p := ⟨g, 0, none⟩) (.inr rfl) _).set (p := ⟨g, 1, none⟩) (.inr rfl) _)⟩
      refine IsN.mono (fun i hi => hi.imp_right fun h => ⟨h.1, by simpa using h.2⟩) (IsN.agree hag ?_)
      rcases List.mem_append.1 hu with hu | hu
      · rcases List.mem_append.1 hu with hu | hu
        · exact HIK.out u (List.mem_of_mem_take hu)
        · exact HI.out u hu
      · exact HIK.out u (List.mem_of_mem_drop hu)
    have HFIN := Lib.hid hfin
    clear hfin hF2
    go_wp2_with fail
    go_ret
    exact HFIN.out
theorem mend_zero1 {w : World} {F : Nat → Prop} {base j : Nat} {s : Sl} {ks : List (PT (0))} {l r : PT (0)} (hm : MendIn w F base (0) s ks (j + 1) l r) :
    Calls Tryz.prog 111 #[.slice s.a ks.length s.c, .int .i64 ((j : Int) + 1)] w (MendPost F base (0) s ks (j + 1) w) := by
  have hj : j + 1 < ks.length := (List.getElem?_eq_some_iff.1 hm.hr).1
  obtain ⟨g, cap, rfl, hbg, hnc, hcm, hfil⟩ := own_block hm.own (by omega)
  have hown := hm.own
  have HM := Lib.hid hm
  have hml : ks[j]? = some l := hm.hl
  have hmr : ks[j + 1]? = some r := hm.hr
  have cc : ∀ q u, (ptrs (0) ks)[q]? = some u → w.cell? ⟨g, q, none⟩ = some u := fun q u hq => by
    have := hown.cells (g := g) rfl q u hq
    rwa [add_at, Nat.zero_add] at this
  have cl : w.cell? ⟨g, j, none⟩ = some (ptr (0) l) := cc j _ (by rw [ptrs, List.getElem?_map, hml]; rfl)
  have cr : w.cell? ⟨g, j + 1, none⟩ = some (ptr (0) r) := cc (j + 1) _ (by rw [ptrs, List.getElem?_map, hmr]; rfl)
  have hlm := List.mem_of_getElem? hml
  have hrm := List.mem_of_getElem? hmr
  have hgl := hfil.lt
  have hn8 := hm.n8
  have hj1 : (j : Int) < (ks.length : Int) := by omega
  have hj2 : (j : Int) + 1 < (ks.length : Int) := by omega
  have hj0 : (0 : Int) ≤ (j : Int) := by omega
  have hjb : (0 : Int) ≤ (j : Int) + 1 := by omega
  have hw1 : IntKind.i64.wrap ((j : Int) + 1) = (j : Int) + 1 := by rw [IntKind.wrap_i64]; omega
  have htn : ((j : Int) + 1).toNat = j + 1 := by omega
  have hz : True := trivial
  have HH0 := Lib.hid (fun W (hW : Agree F w W) => height_any ((hm.isn l hlm).agree hW))
  have HCL := Lib.hid hml
  have HCR := Lib.hid hmr
  have HFZ := Lib.hid hfil.frozen
  clear hown cc hfil hm hml hmr hlm hrm
  go_enter Tryz.func111, Tryz.ntmps111
  go_wp2_with fail
  go_quiet (fail)
  go_wp2_with fail
  have hxW : Ext w (w.drewN nq) := (Ext.refl w).drewN nq
  refine (HH0.out _ (Agree.drewN w nq)).mono ?_
  rintro e w0 ⟨rfl, rfl⟩
  generalize w.drewN nq = W at *
  clear cl cr
  have hne1 := entries_any (w := W) ((((HM.out.isn l (List.mem_of_getElem? HCL.out)).agree (hxW.agree fun b hb => (HM.out.lt b hb).1))).mono fun b hb => Nat.lt_of_lt_of_le (HM.out.lt b hb).1 hxW.size)
  have hne2 : ∀ W', Ext W W' → Calls Tryz.prog 88 #[ptr 0 r] W' (EntriesPost (ents 0 r) W') := fun W' hW' => entries_any ((((HM.out.isn r (List.mem_of_getElem? HCR.out)).agree ((hxW.trans hW').agree fun b hb => (HM.out.lt b hb).1))).mono fun b hb => Nat.lt_of_lt_of_le (HM.out.lt b hb).1 (hxW.trans hW').size)
  have HE2 := Lib.hid hne2
  have HXW := Lib.hid hxW
  clear hne2 hxW
  go_wp2_with fail
  refine hne1.mono ?_
  intro e w1 hp
  obtain ⟨sx, xs, rfl, hxs, hox, hx1⟩ := hp
  have HXS := Lib.hid hxs
  have HOX := Lib.hid hox
  have HX1 := Lib.hid hx1
  have he2 := HE2.out w1 hx1
  clear hne1 hxs hox hx1
  go_wp2_with fail
  refine he2.mono ?_
  intro e w2 hp
  obtain ⟨sy, ys, rfl, hys, hoy, hx2⟩ := hp
  have hrx : ∀ b, sx.row = some b → W.heap.size ≤ b ∧ b < w1.heap.size := fun b hb => own_row HOX.out.own hb
  have hry : ∀ b, sy.row = some b → w1.heap.size ≤ b ∧ b < w2.heap.size := fun b hb => own_row hoy.own hb
  have hs1 := HX1.out.size
  have hs2 := hx2.size
  have hox2 := HOX.out.ext hx2
  have hoy2 : OE w2 W.heap.size sy ys := hoy.base hs1
  have hl8 : xs.length ≤ 8 := by have := (HM.out.ok l (List.mem_of_getElem? HCL.out)).1; have e1 : xs.length = l.2.length := by rw [show l.2 = ents 0 l from rfl, ← HXS.out, List.length_map]
                                 rw [e1]; exact this
  have hr8 : ys.length ≤ 8 := by have := (HM.out.ok r (List.mem_of_getElem? HCR.out)).1; have e1 : ys.length = r.2.length := by rw [show r.2 = ents 0 r from rfl, ← hys, List.length_map]
                                 rw [e1]; exact this
  have hsum : xs.length + ys.length ≤ 11 := by
    have e1 : xs.length = size 0 l := by rw [show size 0 l = (ents 0 l).length from rfl, ← HXS.out, List.length_map]
    have e2 : ys.length = size 0 r := by rw [show size 0 r = (ents 0 r).length from rfl, ← hys, List.length_map]
    rw [e1, e2]; exact HM.out.sum
  have hrise : risingN (xs ++ ys) := risingN_of (by rw [List.map_append, HXS.out, hys]; exact two_sorted HM.out.sorted HCL.out HCR.out)
  have hpr := pairE_any hox2 hoy2 (Nat.le_trans hs1 hs2) (fun b hb hb' => by have := hrx b hb; have := hry b hb'; omega)
    (fun x hx => ⟨((HOX.out.vals x hx).1.agree (hx2.agree fun b hb => hb.1.2)).mono fun b hb => ⟨Nat.lt_of_lt_of_le hb.1.2 hs2, fun h => h.elim (fun h => hb.2 h) (fun h => by have := hry b h; have := hb.1.2; omega)⟩, (HOX.out.vals x hx).2⟩)
    (fun x hx => ⟨(hoy.vals x hx).1.mono fun b hb => ⟨hb.1.2, fun h => h.elim (fun h => by have := hrx b h; have := hb.1.1; omega) (fun h => hb.2 h)⟩, (hoy.vals x hx).2⟩)
    hrise hl8 hr8 hsum (l := l) (r := r) HXS.out hys
  have hX2 := HXW.out.trans (HX1.out.trans hx2)
  have HX2 := Lib.hid hX2
  have HRX := Lib.hid hrx
  have HRY := Lib.hid hry
  have hsW := HXW.out.size
  clear he2 hys hoy hx2 hrx hry hox2 hoy2 hrise hl8 hr8 hsum hX2
  go_wp2_with fail
  refine hpr.mono ?_
  rintro e w3 ⟨⟨ts, rfl, hP, hI⟩, hst⟩
  have HALL : Hid (Ext w w3 ∧ PairR w.heap.size 0 l r ts ∧ ∀ u ∈ ts, IsN w3 (Up F w w3) 0 u) := Lib.hid ⟨HX2.out.step hst (fun b hb => hb.elim (fun h => by have := HRX.out b h; omega) (fun h => by have := HRY.out b h; omega)), hP.mono (HX2.out.size), fun u hu => (hI u hu).mono fun i hi => hi.elim (fun h => h.elim) fun h => .inr ⟨Nat.le_trans HX2.out.size h.1, h.2⟩⟩
  clear hpr hP hI hst
  obtain ⟨hX3, hP, hI⟩ := HALL.out
  have hown3 : w3.ownsRow base 23 1 (.slice (some ⟨g, 0, none⟩) ks.length cap) ks.length (ptrs (0) ks) := own_agree (s := ⟨some ⟨g, 0, none⟩, cap⟩) HM.out.own (hX3.agree (F := Lt w.heap.size) fun _ h => h) fun b hb => (own_row HM.out.own hb).2
  have hfz3 : ∀ o, w3.frozen? ⟨g, o, none⟩ = false := fun o => (hX3.frozen hgl).trans (HFZ.out o)
  have hcc : ∀ q u, (ptrs (0) ks)[q]? = some u → w3.cell? ⟨g, q, none⟩ = some u := fun q u hq => by
    have := hown3.cells (g := g) rfl q u hq
    rwa [add_at, Nat.zero_add] at this
  have dl : w3.cell? ⟨g, j, none⟩ = some (ptr (0) l) := hcc j _ (by rw [ptrs, List.getElem?_map, HCL.out]; rfl)
  have dr : w3.cell? ⟨g, j + 1, none⟩ = some (ptr (0) r) := hcc (j + 1) _ (by rw [ptrs, List.getElem?_map, HCR.out]; rfl)
  have hlj : j < ks.length := by omega
  have HOWN3 := Lib.hid hown3
  have HX3 := Lib.hid hX3
  have HP := Lib.hid hP
  have HI := Lib.hid hI
  have hlen := hP.len
  have hFG : ∀ W' x, F x ∨ (w.heap.size ≤ x ∧ x < W') → x ≠ g := fun W' x hx e => by
    subst e
    rcases hx with h | h
    · exact (HM.out.lt x h).2 rfl
    · omega
  have hF2 : ∀ x, F x → x < w.heap.size := fun x hx => (HM.out.lt x hx).1
  have hIK : ∀ k ∈ ks, IsN w3 (Up F w w3) (0) k := fun k hk => ((HM.out.isn k hk).agree (hX3.agree hF2)).mono fun i hi => .inl hi
  have HIK := Lib.hid hIK
  have HFG := Lib.hid hFG
  clear hown3 hcc hX3 hP hI hIK hFG
  rcases hlen with hlen | hlen
  · obtain ⟨a, rfl⟩ := List.length_eq_one_iff.1 hlen
    rw [show two (0) [a] = Ending.returned (.tuple #[ptr (0) a, .pointer none]) from rfl]
    have hfin : ∀ w5, Wr (w3.setCell ⟨g, j, none⟩ (ptr (0) a)) w5 (some g) → w5.ownsRow base 23 1 (.slice (some ⟨g, 0, none⟩) (ks.length - 1) cap) (ks.length - 1) (((ptrs (0) ks).set j (ptr (0) a)).take ((j + 1) * 1) ++ ((ptrs (0) ks).set j (ptr (0) a)).drop ((j + 1 + 1) * 1)) →
        MendPost F base (0) ⟨some ⟨g, 0, none⟩, cap⟩ ks (j + 1) w (.returned (.slice (some ⟨g, 0, none⟩) (ks.length - 1) cap)) w5 := fun w5 hwr hown => by
      have hz : w3.heap.size ≤ w5.heap.size := by have := hwr.grown.size; rwa [World.size_setCell] at this
      have hag : Agree (Up F w w3) w3 w5 := (Agree.setCell w3 ⟨g, j, none⟩ _ (fun h => HFG.out _ g h rfl)).trans (hwr.agree (fun i hi => by rw [World.size_setCell]; exact hi.elim (fun h => Nat.lt_of_lt_of_le (hF2 i h) HX3.out.size) fun h => h.2) (fun k hk h => by cases hk; exact HFG.out _ g h rfl))
      have hup : ∀ i, Up F w w3 i → Up F w w5 i := fun i hi => hi.imp_right fun h => ⟨h.1, Nat.lt_of_lt_of_le h.2 hz⟩
      have e0 : (ptrs (0) ks).set j (ptr (0) a) = ptrs (0) (ks.set j a) := by rw [ptrs, ptrs, List.map_set]
      have e1 : ((ptrs (0) ks).set j (ptr (0) a)).take ((j + 1) * 1) ++ ((ptrs (0) ks).set j (ptr (0) a)).drop ((j + 1 + 1) * 1) = ptrs (0) (ks.take j ++ [a] ++ ks.drop (j + 2)) := by
        rw [e0, Nat.mul_one, Nat.mul_one, ← ptrs_take, ← ptrs_drop, ← ptrs_app, mend_list1 HCL.out HCR.out]
      have e2 : (ks.take j ++ [a] ++ ks.drop (j + 2)).length = ks.length - 1 := by simp only [List.length_append, List.length_take, List.length_drop, List.length_cons, List.length_nil]; omega
      rw [e1] at hown
      refine ⟨⟨some ⟨g, 0, none⟩, cap⟩, ks.take j ++ [a] ++ ks.drop (j + 2), by rw [e2], by rw [e2]; exact hown, ⟨l, r, [a], HCL.out, HCR.out, HP.out, rfl⟩, fun u hu => ?_, (((HX3.out.st (fun b => (⟨some ⟨g, 0, none⟩, cap⟩ : Sl).row = some b)).set (p := ⟨g, j, none⟩) (.inr rfl) _).trans (hwr.st fun i hi => hi))⟩
      refine IsN.mono hup (IsN.agree hag ?_)
      rcases List.mem_append.1 hu with hu | hu
      · rcases List.mem_append.1 hu with hu | hu
        · exact HIK.out u (List.mem_of_mem_take hu)
        · exact HI.out u hu
      · exact HIK.out u (List.mem_of_mem_drop hu)
    have hd := delN_any (s := ⟨some ⟨g, 0, none⟩, cap⟩) (n := ks.length) (xs := (ptrs (0) ks).set j (ptr (0) a)) (i := j + 1) (own_set HOWN3.out hlj (ptr (0) a)) (by omega) (by omega) (fun u hu => by
      rcases List.mem_or_eq_of_mem_set hu with hu | rfl
      · exact ptrs_one (0) ks u hu
      · rfl)
    have q1 : ((j + 1 : Nat) : Int) = ((j : Int) + 1) := by omega
    have q2 : ((j : Int) + 1) + 1 = ((j : Int) + 2) := by omega
    rw [q1, q2] at hd
    have HD := Lib.hid hd
    have HFIN := Lib.hid hfin
    clear hd hfin q1 q2 hF2
    go_wp2_with fail
    refine HD.out.mono ?_
    rintro e w5 ⟨rfl, hown5, hwr5⟩
    have HO5 := Lib.hid (HFIN.out w5 hwr5 hown5)
    clear hown5 hwr5
    go_wp2_with fail
    go_ret
    exact HO5.out
  · obtain ⟨a, b, rfl⟩ : ∃ a b, ts = [a, b] := by
      match ts, hlen with
      | [a, b], _ => exact ⟨a, b, rfl⟩
    rw [show two (0) [a, b] = Ending.returned (.tuple #[ptr (0) a, ptr (0) b]) from rfl]
    have hfin : MendPost F base (0) ⟨some ⟨g, 0, none⟩, cap⟩ ks (j + 1) w (.returned (.slice (some ⟨g, 0, none⟩) ks.length cap)) ((w3.setCell ⟨g, j, none⟩ (ptr (0) a)).setCell ⟨g, j + 1, none⟩ (ptr (0) b)) := by
      have hag : Agree (Up F w w3) w3 ((w3.setCell ⟨g, j, none⟩ (ptr (0) a)).setCell ⟨g, j + 1, none⟩ (ptr (0) b)) := (Agree.setCell w3 ⟨g, j, none⟩ _ (fun h => HFG.out _ g h rfl)).trans (Agree.setCell _ ⟨g, j + 1, none⟩ _ (fun h => HFG.out _ g h rfl))
      have e0 : ((ptrs (0) ks).set j (ptr (0) a)).set (j + 1) (ptr (0) b) = ptrs (0) ((ks.set j a).set (j + 1) b) := by rw [ptrs, ptrs, List.map_set, List.map_set]
      have e2 : (ks.take j ++ [a, b] ++ ks.drop (j + 2)).length = ks.length := by simp only [List.length_append, List.length_take, List.length_drop, List.length_cons, List.length_nil]; omega
      have hown := own_set (own_set HOWN3.out hlj (ptr (0) a)) (i := j + 1) (by omega) (ptr (0) b)
      rw [e0, mend_list HCL.out HCR.out] at hown
      refine ⟨⟨some ⟨g, 0, none⟩, cap⟩, ks.take j ++ [a, b] ++ ks.drop (j + 2), by rw [e2], by rw [e2]; exact hown, ⟨l, r, [a, b], HCL.out, HCR.out, HP.out, rfl⟩, fun u hu => ?_, (((HX3.out.st (fun b => (⟨some ⟨g, 0, none⟩, cap⟩ : Sl).row = some b)).set (p := ⟨g, j, none⟩) (.inr rfl) _).set (p := ⟨g, j + 1, none⟩) (.inr rfl) _)⟩
      refine IsN.mono (fun i hi => hi.imp_right fun h => ⟨h.1, by simpa using h.2⟩) (IsN.agree hag ?_)
      rcases List.mem_append.1 hu with hu | hu
      · rcases List.mem_append.1 hu with hu | hu
        · exact HIK.out u (List.mem_of_mem_take hu)
        · exact HI.out u hu
      · exact HIK.out u (List.mem_of_mem_drop hu)
    have HFIN := Lib.hid hfin
    clear hfin hF2
    go_wp2_with fail
    go_ret
    exact HFIN.out
theorem mend_succ0 {w : World} {F : Nat → Prop} {base h : Nat} {s : Sl} {ks : List (PT (h + 1))} {l r : PT (h + 1)} (hm : MendIn w F base (h + 1) s ks (0) l r) :
    Calls Tryz.prog 111 #[.slice s.a ks.length s.c, .int .i64 0] w (MendPost F base (h + 1) s ks (0) w) := by
  have hj : 1 < ks.length := (List.getElem?_eq_some_iff.1 hm.hr).1
  obtain ⟨g, cap, rfl, hbg, hnc, hcm, hfil⟩ := own_block hm.own (by omega)
  have hown := hm.own
  have HM := Lib.hid hm
  have hml : ks[0]? = some l := hm.hl
  have hmr : ks[1]? = some r := hm.hr
  have cc : ∀ q u, (ptrs (h + 1) ks)[q]? = some u → w.cell? ⟨g, q, none⟩ = some u := fun q u hq => by
    have := hown.cells (g := g) rfl q u hq
    rwa [add_at, Nat.zero_add] at this
  have cl : w.cell? ⟨g, 0, none⟩ = some (ptr (h + 1) l) := cc 0 _ (by rw [ptrs, List.getElem?_map, hml]; rfl)
  have cr : w.cell? ⟨g, 1, none⟩ = some (ptr (h + 1) r) := cc (1) _ (by rw [ptrs, List.getElem?_map, hmr]; rfl)
  have hlm := List.mem_of_getElem? hml
  have hrm := List.mem_of_getElem? hmr
  have hgl := hfil.lt
  have hn8 := hm.n8
  have hj1 : (0 : Int) < (ks.length : Int) := by omega
  have hj2 : (1 : Int) < (ks.length : Int) := by omega
  have hz : (((h : Int) + 1) == 0) = false := beq_eq_false_iff_ne.2 (by omega)
  have HH0 := Lib.hid (fun W (hW : Agree F w W) => height_any ((hm.isn l hlm).agree hW))
  have HCL := Lib.hid hml
  have HCR := Lib.hid hmr
  have HFZ := Lib.hid hfil.frozen
  clear hown cc hfil hm hml hmr hlm hrm
  go_enter Tryz.func111, Tryz.ntmps111
  go_wp2_with fail
  go_quiet (fail)
  go_wp2_with fail
  have hxW : Ext w (w.drewN nq) := (Ext.refl w).drewN nq
  refine (HH0.out _ (Agree.drewN w nq)).mono ?_
  rintro e w0 ⟨rfl, rfl⟩
  generalize w.drewN nq = W at *
  clear cl cr
  have hkk : ∀ W', Ext W W' → ∀ x, x ∈ ks → Calls Tryz.prog 70 #[ptr (h + 1) x] W' (ClonePost 23 x.2.length (ptrs h x.2) W') := fun W' hW' x hx => kids_any ((HM.out.isn x hx).agree ((hxW.trans hW').agree fun b hb => (HM.out.lt b hb).1)) (by have := (HM.out.ok x hx).1.2.1; omega)
  have hne1 := hkk W (Ext.refl W) l (List.mem_of_getElem? HCL.out)
  have HKK := Lib.hid hkk
  have HXW := Lib.hid hxW
  clear hkk hxW
  go_wp2_with fail
  refine hne1.mono ?_
  rintro e w1 ⟨sx, rfl, hox, hx1⟩
  have HOX := Lib.hid hox
  have HX1 := Lib.hid hx1
  have he2 := HKK.out w1 hx1 r (List.mem_of_getElem? HCR.out)
  clear hne1 hox hx1
  go_wp2_with fail
  refine he2.mono ?_
  rintro e w2 ⟨sy, rfl, hoy, hx2⟩
  have hrx : ∀ b, sx.row = some b → W.heap.size ≤ b ∧ b < w1.heap.size := fun b hb => own_row HOX.out hb
  have hry : ∀ b, sy.row = some b → w1.heap.size ≤ b ∧ b < w2.heap.size := fun b hb => own_row hoy hb
  have hs1 := HX1.out.size
  have hs2 := hx2.size
  have hsW := HXW.out.size
  have hox2 : w2.ownsRow W.heap.size 23 1 (.slice sx.a l.2.length sx.c) l.2.length (ptrs h l.2) := own_agree HOX.out (hx2.agree (F := Lt w1.heap.size) fun _ h => h) fun b hb => (hrx b hb).2
  have hoy2 : w2.ownsRow W.heap.size 23 1 (.slice sy.a r.2.length sy.c) r.2.length (ptrs h r.2) := own_base hoy hs1
  have okl := HM.out.ok l (List.mem_of_getElem? HCL.out)
  have okr := HM.out.ok r (List.mem_of_getElem? HCR.out)
  have hX2 := HXW.out.trans (HX1.out.trans hx2)
  have hso := two_sorted HM.out.sorted HCL.out HCR.out
  have hfe := two_few (ks := ks) HCL.out HCR.out
  have hkp : ∀ x ∈ l.2 ++ r.2, OkT h x ∧ 4 ≤ size h x ∧ IsN w F h x := fun x hx => by
    rcases List.mem_append.1 hx with hx | hx
    · exact ⟨(okl.1.2.2 x hx).1, (okl.1.2.2 x hx).2, (HM.out.isn l (List.mem_of_getElem? HCL.out)).2.choose_spec.2.2 x hx⟩
    · exact ⟨(okr.1.2.2 x hx).1, (okr.1.2.2 x hx).2, (HM.out.isn r (List.mem_of_getElem? HCR.out)).2.choose_spec.2.2 x hx⟩
  have hpos : ∀ x ∈ l.2 ++ r.2, 0 < (ents h x).length := fun x hx => ents_pos h x (hkp x hx).1 (by have := (hkp x hx).2.1; omega)
  have hso2 : Sorted ((l.2 ++ r.2).flatMap (ents h)) := by rw [List.flatMap_append]; exact hso
  have hkids : Kids w2 F h (l.2 ++ r.2) := ⟨fun b hb => Nat.lt_of_lt_of_le (HM.out.lt b hb).1 hX2.size, fun x hx => (hkp x hx).2.2.agree (hX2.agree fun b hb => (HM.out.lt b hb).1), rising_of hso2 hpos, hpos, fun x hx => by have := size_le8 (hkp x hx).1; omega, by
    unfold cnt
    rw [List.flatMap_append, List.length_append]
    have h1 : (ents (h + 1) l).length + (ents (h + 1) r).length ≤ 1000000 := Nat.le_trans hfe HM.out.few
    have h2 : (l.2.flatMap (ents h)).length = (ents (h + 1) l).length := rfl
    have h3 : (r.2.flatMap (ents h)).length = (ents (h + 1) r).length := rfl
    omega, by have := HM.out.hh; omega⟩
  have hpr := pairN_any (F := F) (l := l) (r := r) hox2 hoy2 (Nat.le_trans hs1 hs2) (fun b hb hb' => by have := hrx b hb; have := hry b hb'; omega)
    (fun b hb hb' => by
      have := (HM.out.lt b hb).1
      rcases hb' with h | h
      · have := hrx b h; omega
      · have := hry b h; omega) hkids okl.2 okr.2 okl.1.2.1 okr.1.2.1 HM.out.sum
  have HX2 := Lib.hid hX2
  have HRX := Lib.hid hrx
  have HRY := Lib.hid hry
  clear he2 hoy hx2 hrx hry hox2 hoy2 hX2 hso hfe hkp hpos hso2 hkids okl okr
  go_wp2_with fail
  refine hpr.mono ?_
  rintro e w3 ⟨⟨ts, rfl, hP, hI⟩, hst⟩
  have HALL : Hid (Ext w w3 ∧ PairR w.heap.size (h + 1) l r ts ∧ ∀ u ∈ ts, IsN w3 (Up F w w3) (h + 1) u) := Lib.hid ⟨HX2.out.step hst (fun b hb => hb.elim (fun h => by have := HRX.out b h; omega) (fun h => by have := HRY.out b h; omega)), hP.mono (HX2.out.size), fun u hu => (hI u hu).mono fun i hi => hi.imp_right fun h => ⟨Nat.le_trans HX2.out.size h.1, h.2⟩⟩
  clear hpr hP hI hst
  obtain ⟨hX3, hP, hI⟩ := HALL.out
  have hown3 : w3.ownsRow base 23 1 (.slice (some ⟨g, 0, none⟩) ks.length cap) ks.length (ptrs (h + 1) ks) := own_agree (s := ⟨some ⟨g, 0, none⟩, cap⟩) HM.out.own (hX3.agree (F := Lt w.heap.size) fun _ h => h) fun b hb => (own_row HM.out.own hb).2
  have hfz3 : ∀ o, w3.frozen? ⟨g, o, none⟩ = false := fun o => (hX3.frozen hgl).trans (HFZ.out o)
  have hcc : ∀ q u, (ptrs (h + 1) ks)[q]? = some u → w3.cell? ⟨g, q, none⟩ = some u := fun q u hq => by
    have := hown3.cells (g := g) rfl q u hq
    rwa [add_at, Nat.zero_add] at this
  have dl : w3.cell? ⟨g, 0, none⟩ = some (ptr (h + 1) l) := hcc 0 _ (by rw [ptrs, List.getElem?_map, HCL.out]; rfl)
  have dr : w3.cell? ⟨g, 1, none⟩ = some (ptr (h + 1) r) := hcc (1) _ (by rw [ptrs, List.getElem?_map, HCR.out]; rfl)
  have hlj : 0 < ks.length := by omega
  have HOWN3 := Lib.hid hown3
  have HX3 := Lib.hid hX3
  have HP := Lib.hid hP
  have HI := Lib.hid hI
  have hlen := hP.len
  have hFG : ∀ W' x, F x ∨ (w.heap.size ≤ x ∧ x < W') → x ≠ g := fun W' x hx e => by
    subst e
    rcases hx with h | h
    · exact (HM.out.lt x h).2 rfl
    · omega
  have hF2 : ∀ x, F x → x < w.heap.size := fun x hx => (HM.out.lt x hx).1
  have hIK : ∀ k ∈ ks, IsN w3 (Up F w w3) (h + 1) k := fun k hk => ((HM.out.isn k hk).agree (hX3.agree hF2)).mono fun i hi => .inl hi
  have HIK := Lib.hid hIK
  have HFG := Lib.hid hFG
  clear hown3 hcc hX3 hP hI hIK hFG
  rcases hlen with hlen | hlen
  · obtain ⟨a, rfl⟩ := List.length_eq_one_iff.1 hlen
    rw [show two (h + 1) [a] = Ending.returned (.tuple #[ptr (h + 1) a, .pointer none]) from rfl]
    have hfin : ∀ w5, Wr (w3.setCell ⟨g, 0, none⟩ (ptr (h + 1) a)) w5 (some g) → w5.ownsRow base 23 1 (.slice (some ⟨g, 0, none⟩) (ks.length - 1) cap) (ks.length - 1) (((ptrs (h + 1) ks).set 0 (ptr (h + 1) a)).take ((1) * 1) ++ ((ptrs (h + 1) ks).set 0 (ptr (h + 1) a)).drop ((1 + 1) * 1)) →
        MendPost F base (h + 1) ⟨some ⟨g, 0, none⟩, cap⟩ ks (0) w (.returned (.slice (some ⟨g, 0, none⟩) (ks.length - 1) cap)) w5 := fun w5 hwr hown => by
      have hz : w3.heap.size ≤ w5.heap.size := by have := hwr.grown.size; rwa [World.size_setCell] at this
      have hag : Agree (Up F w w3) w3 w5 := (Agree.setCell w3 ⟨g, 0, none⟩ _ (fun h => HFG.out _ g h rfl)).trans (hwr.agree (fun i hi => by rw [World.size_setCell]; exact hi.elim (fun h => Nat.lt_of_lt_of_le (hF2 i h) HX3.out.size) fun h => h.2) (fun k hk h => by cases hk; exact HFG.out _ g h rfl))
      have hup : ∀ i, Up F w w3 i → Up F w w5 i := fun i hi => hi.imp_right fun h => ⟨h.1, Nat.lt_of_lt_of_le h.2 hz⟩
      have e0 : (ptrs (h + 1) ks).set 0 (ptr (h + 1) a) = ptrs (h + 1) (ks.set 0 a) := by rw [ptrs, ptrs, List.map_set]
      have e1 : ((ptrs (h + 1) ks).set 0 (ptr (h + 1) a)).take ((1) * 1) ++ ((ptrs (h + 1) ks).set 0 (ptr (h + 1) a)).drop ((1 + 1) * 1) = ptrs (h + 1) (ks.take 0 ++ [a] ++ ks.drop (0 + 2)) := by
        rw [e0, Nat.mul_one, Nat.mul_one, ← ptrs_take, ← ptrs_drop, ← ptrs_app, mend_list1 HCL.out HCR.out]
      have e2 : (ks.take 0 ++ [a] ++ ks.drop (0 + 2)).length = ks.length - 1 := by simp only [List.length_append, List.length_take, List.length_drop, List.length_cons, List.length_nil]; omega
      rw [e1] at hown
      refine ⟨⟨some ⟨g, 0, none⟩, cap⟩, ks.take 0 ++ [a] ++ ks.drop (0 + 2), by rw [e2], by rw [e2]; exact hown, ⟨l, r, [a], HCL.out, HCR.out, HP.out, rfl⟩, fun u hu => ?_, (((HX3.out.st (fun b => (⟨some ⟨g, 0, none⟩, cap⟩ : Sl).row = some b)).set (p := ⟨g, 0, none⟩) (.inr rfl) _).trans (hwr.st fun i hi => hi))⟩
      refine IsN.mono hup (IsN.agree hag ?_)
      rcases List.mem_append.1 hu with hu | hu
      · rcases List.mem_append.1 hu with hu | hu
        · exact HIK.out u (List.mem_of_mem_take hu)
        · exact HI.out u hu
      · exact HIK.out u (List.mem_of_mem_drop hu)
    have hd := delN_any (s := ⟨some ⟨g, 0, none⟩, cap⟩) (n := ks.length) (xs := (ptrs (h + 1) ks).set 0 (ptr (h + 1) a)) (i := 1) (own_set HOWN3.out hlj (ptr (h + 1) a)) (by omega) (by omega) (fun u hu => by
      rcases List.mem_or_eq_of_mem_set hu with hu | rfl
      · exact ptrs_one (h + 1) ks u hu
      · rfl)
    have q1 : ((1 : Nat) : Int) = (1 : Int) := by omega
    have q2 : (1 : Int) + 1 = (2 : Int) := by omega
    rw [q1, q2] at hd
    have HD := Lib.hid hd
    have HFIN := Lib.hid hfin
    clear hd hfin q1 q2 hF2
    go_wp2_with fail
    refine HD.out.mono ?_
    rintro e w5 ⟨rfl, hown5, hwr5⟩
    have HO5 := Lib.hid (HFIN.out w5 hwr5 hown5)
    clear hown5 hwr5
    go_wp2_with fail
    go_ret
    exact HO5.out
  · obtain ⟨a, b, rfl⟩ : ∃ a b, ts = [a, b] := by
      match ts, hlen with
      | [a, b], _ => exact ⟨a, b, rfl⟩
    rw [show two (h + 1) [a, b] = Ending.returned (.tuple #[ptr (h + 1) a, ptr (h + 1) b]) from rfl]
    have hfin : MendPost F base (h + 1) ⟨some ⟨g, 0, none⟩, cap⟩ ks (0) w (.returned (.slice (some ⟨g, 0, none⟩) ks.length cap)) ((w3.setCell ⟨g, 0, none⟩ (ptr (h + 1) a)).setCell ⟨g, 1, none⟩ (ptr (h + 1) b)) := by
      have hag : Agree (Up F w w3) w3 ((w3.setCell ⟨g, 0, none⟩ (ptr (h + 1) a)).setCell ⟨g, 1, none⟩ (ptr (h + 1) b)) := (Agree.setCell w3 ⟨g, 0, none⟩ _ (fun h => HFG.out _ g h rfl)).trans (Agree.setCell _ ⟨g, 1, none⟩ _ (fun h => HFG.out _ g h rfl))
      have e0 : ((ptrs (h + 1) ks).set 0 (ptr (h + 1) a)).set (1) (ptr (h + 1) b) = ptrs (h + 1) ((ks.set 0 a).set (1) b) := by rw [ptrs, ptrs, List.map_set, List.map_set]
      have e2 : (ks.take 0 ++ [a, b] ++ ks.drop (0 + 2)).length = ks.length := by simp only [List.length_append, List.length_take, List.length_drop, List.length_cons, List.length_nil]; omega
      have hown := own_set (own_set HOWN3.out hlj (ptr (h + 1) a)) (i := 1) (by omega) (ptr (h + 1) b)
      rw [e0, mend_list HCL.out HCR.out] at hown
      refine ⟨⟨some ⟨g, 0, none⟩, cap⟩, ks.take 0 ++ [a, b] ++ ks.drop (0 + 2), by rw [e2], by rw [e2]; exact hown, ⟨l, r, [a, b], HCL.out, HCR.out, HP.out, rfl⟩, fun u hu => ?_, (((HX3.out.st (fun b => (⟨some ⟨g, 0, none⟩, cap⟩ : Sl).row = some b)).set (p := ⟨g, 0, none⟩) (.inr rfl) _).set (p := ⟨g, 1, none⟩) (.inr rfl) _)⟩
      refine IsN.mono (fun i hi => hi.imp_right fun h => ⟨h.1, by simpa using h.2⟩) (IsN.agree hag ?_)
      rcases List.mem_append.1 hu with hu | hu
      · rcases List.mem_append.1 hu with hu | hu
        · exact HIK.out u (List.mem_of_mem_take hu)
        · exact HI.out u hu
      · exact HIK.out u (List.mem_of_mem_drop hu)
    have HFIN := Lib.hid hfin
    clear hfin hF2
    go_wp2_with fail
    go_ret
    exact HFIN.out
theorem mend_succ1 {w : World} {F : Nat → Prop} {base h j : Nat} {s : Sl} {ks : List (PT (h + 1))} {l r : PT (h + 1)} (hm : MendIn w F base (h + 1) s ks (j + 1) l r) :
    Calls Tryz.prog 111 #[.slice s.a ks.length s.c, .int .i64 ((j : Int) + 1)] w (MendPost F base (h + 1) s ks (j + 1) w) := by
  have hj : j + 1 < ks.length := (List.getElem?_eq_some_iff.1 hm.hr).1
  obtain ⟨g, cap, rfl, hbg, hnc, hcm, hfil⟩ := own_block hm.own (by omega)
  have hown := hm.own
  have HM := Lib.hid hm
  have hml : ks[j]? = some l := hm.hl
  have hmr : ks[j + 1]? = some r := hm.hr
  have cc : ∀ q u, (ptrs (h + 1) ks)[q]? = some u → w.cell? ⟨g, q, none⟩ = some u := fun q u hq => by
    have := hown.cells (g := g) rfl q u hq
    rwa [add_at, Nat.zero_add] at this
  have cl : w.cell? ⟨g, j, none⟩ = some (ptr (h + 1) l) := cc j _ (by rw [ptrs, List.getElem?_map, hml]; rfl)
  have cr : w.cell? ⟨g, j + 1, none⟩ = some (ptr (h + 1) r) := cc (j + 1) _ (by rw [ptrs, List.getElem?_map, hmr]; rfl)
  have hlm := List.mem_of_getElem? hml
  have hrm := List.mem_of_getElem? hmr
  have hgl := hfil.lt
  have hn8 := hm.n8
  have hj1 : (j : Int) < (ks.length : Int) := by omega
  have hj2 : (j : Int) + 1 < (ks.length : Int) := by omega
  have hj0 : (0 : Int) ≤ (j : Int) := by omega
  have hjb : (0 : Int) ≤ (j : Int) + 1 := by omega
  have hw1 : IntKind.i64.wrap ((j : Int) + 1) = (j : Int) + 1 := by rw [IntKind.wrap_i64]; omega
  have htn : ((j : Int) + 1).toNat = j + 1 := by omega
  have hz : (((h : Int) + 1) == 0) = false := beq_eq_false_iff_ne.2 (by omega)
  have HH0 := Lib.hid (fun W (hW : Agree F w W) => height_any ((hm.isn l hlm).agree hW))
  have HCL := Lib.hid hml
  have HCR := Lib.hid hmr
  have HFZ := Lib.hid hfil.frozen
  clear hown cc hfil hm hml hmr hlm hrm
  go_enter Tryz.func111, Tryz.ntmps111
  go_wp2_with fail
  go_quiet (fail)
  go_wp2_with fail
  have hxW : Ext w (w.drewN nq) := (Ext.refl w).drewN nq
  refine (HH0.out _ (Agree.drewN w nq)).mono ?_
  rintro e w0 ⟨rfl, rfl⟩
  generalize w.drewN nq = W at *
  clear cl cr
  have hkk : ∀ W', Ext W W' → ∀ x, x ∈ ks → Calls Tryz.prog 70 #[ptr (h + 1) x] W' (ClonePost 23 x.2.length (ptrs h x.2) W') := fun W' hW' x hx => kids_any ((HM.out.isn x hx).agree ((hxW.trans hW').agree fun b hb => (HM.out.lt b hb).1)) (by have := (HM.out.ok x hx).1.2.1; omega)
  have hne1 := hkk W (Ext.refl W) l (List.mem_of_getElem? HCL.out)
  have HKK := Lib.hid hkk
  have HXW := Lib.hid hxW
  clear hkk hxW
  go_wp2_with fail
  refine hne1.mono ?_
  rintro e w1 ⟨sx, rfl, hox, hx1⟩
  have HOX := Lib.hid hox
  have HX1 := Lib.hid hx1
  have he2 := HKK.out w1 hx1 r (List.mem_of_getElem? HCR.out)
  clear hne1 hox hx1
  go_wp2_with fail
  refine he2.mono ?_
  rintro e w2 ⟨sy, rfl, hoy, hx2⟩
  have hrx : ∀ b, sx.row = some b → W.heap.size ≤ b ∧ b < w1.heap.size := fun b hb => own_row HOX.out hb
  have hry : ∀ b, sy.row = some b → w1.heap.size ≤ b ∧ b < w2.heap.size := fun b hb => own_row hoy hb
  have hs1 := HX1.out.size
  have hs2 := hx2.size
  have hsW := HXW.out.size
  have hox2 : w2.ownsRow W.heap.size 23 1 (.slice sx.a l.2.length sx.c) l.2.length (ptrs h l.2) := own_agree HOX.out (hx2.agree (F := Lt w1.heap.size) fun _ h => h) fun b hb => (hrx b hb).2
  have hoy2 : w2.ownsRow W.heap.size 23 1 (.slice sy.a r.2.length sy.c) r.2.length (ptrs h r.2) := own_base hoy hs1
  have okl := HM.out.ok l (List.mem_of_getElem? HCL.out)
  have okr := HM.out.ok r (List.mem_of_getElem? HCR.out)
  have hX2 := HXW.out.trans (HX1.out.trans hx2)
  have hso := two_sorted HM.out.sorted HCL.out HCR.out
  have hfe := two_few (ks := ks) HCL.out HCR.out
  have hkp : ∀ x ∈ l.2 ++ r.2, OkT h x ∧ 4 ≤ size h x ∧ IsN w F h x := fun x hx => by
    rcases List.mem_append.1 hx with hx | hx
    · exact ⟨(okl.1.2.2 x hx).1, (okl.1.2.2 x hx).2, (HM.out.isn l (List.mem_of_getElem? HCL.out)).2.choose_spec.2.2 x hx⟩
    · exact ⟨(okr.1.2.2 x hx).1, (okr.1.2.2 x hx).2, (HM.out.isn r (List.mem_of_getElem? HCR.out)).2.choose_spec.2.2 x hx⟩
  have hpos : ∀ x ∈ l.2 ++ r.2, 0 < (ents h x).length := fun x hx => ents_pos h x (hkp x hx).1 (by have := (hkp x hx).2.1; omega)
  have hso2 : Sorted ((l.2 ++ r.2).flatMap (ents h)) := by rw [List.flatMap_append]; exact hso
  have hkids : Kids w2 F h (l.2 ++ r.2) := ⟨fun b hb => Nat.lt_of_lt_of_le (HM.out.lt b hb).1 hX2.size, fun x hx => (hkp x hx).2.2.agree (hX2.agree fun b hb => (HM.out.lt b hb).1), rising_of hso2 hpos, hpos, fun x hx => by have := size_le8 (hkp x hx).1; omega, by
    unfold cnt
    rw [List.flatMap_append, List.length_append]
    have h1 : (ents (h + 1) l).length + (ents (h + 1) r).length ≤ 1000000 := Nat.le_trans hfe HM.out.few
    have h2 : (l.2.flatMap (ents h)).length = (ents (h + 1) l).length := rfl
    have h3 : (r.2.flatMap (ents h)).length = (ents (h + 1) r).length := rfl
    omega, by have := HM.out.hh; omega⟩
  have hpr := pairN_any (F := F) (l := l) (r := r) hox2 hoy2 (Nat.le_trans hs1 hs2) (fun b hb hb' => by have := hrx b hb; have := hry b hb'; omega)
    (fun b hb hb' => by
      have := (HM.out.lt b hb).1
      rcases hb' with h | h
      · have := hrx b h; omega
      · have := hry b h; omega) hkids okl.2 okr.2 okl.1.2.1 okr.1.2.1 HM.out.sum
  have HX2 := Lib.hid hX2
  have HRX := Lib.hid hrx
  have HRY := Lib.hid hry
  clear he2 hoy hx2 hrx hry hox2 hoy2 hX2 hso hfe hkp hpos hso2 hkids okl okr
  go_wp2_with fail
  refine hpr.mono ?_
  rintro e w3 ⟨⟨ts, rfl, hP, hI⟩, hst⟩
  have HALL : Hid (Ext w w3 ∧ PairR w.heap.size (h + 1) l r ts ∧ ∀ u ∈ ts, IsN w3 (Up F w w3) (h + 1) u) := Lib.hid ⟨HX2.out.step hst (fun b hb => hb.elim (fun h => by have := HRX.out b h; omega) (fun h => by have := HRY.out b h; omega)), hP.mono (HX2.out.size), fun u hu => (hI u hu).mono fun i hi => hi.imp_right fun h => ⟨Nat.le_trans HX2.out.size h.1, h.2⟩⟩
  clear hpr hP hI hst
  obtain ⟨hX3, hP, hI⟩ := HALL.out
  have hown3 : w3.ownsRow base 23 1 (.slice (some ⟨g, 0, none⟩) ks.length cap) ks.length (ptrs (h + 1) ks) := own_agree (s := ⟨some ⟨g, 0, none⟩, cap⟩) HM.out.own (hX3.agree (F := Lt w.heap.size) fun _ h => h) fun b hb => (own_row HM.out.own hb).2
  have hfz3 : ∀ o, w3.frozen? ⟨g, o, none⟩ = false := fun o => (hX3.frozen hgl).trans (HFZ.out o)
  have hcc : ∀ q u, (ptrs (h + 1) ks)[q]? = some u → w3.cell? ⟨g, q, none⟩ = some u := fun q u hq => by
    have := hown3.cells (g := g) rfl q u hq
    rwa [add_at, Nat.zero_add] at this
  have dl : w3.cell? ⟨g, j, none⟩ = some (ptr (h + 1) l) := hcc j _ (by rw [ptrs, List.getElem?_map, HCL.out]; rfl)
  have dr : w3.cell? ⟨g, j + 1, none⟩ = some (ptr (h + 1) r) := hcc (j + 1) _ (by rw [ptrs, List.getElem?_map, HCR.out]; rfl)
  have hlj : j < ks.length := by omega
  have HOWN3 := Lib.hid hown3
  have HX3 := Lib.hid hX3
  have HP := Lib.hid hP
  have HI := Lib.hid hI
  have hlen := hP.len
  have hFG : ∀ W' x, F x ∨ (w.heap.size ≤ x ∧ x < W') → x ≠ g := fun W' x hx e => by
    subst e
    rcases hx with h | h
    · exact (HM.out.lt x h).2 rfl
    · omega
  have hF2 : ∀ x, F x → x < w.heap.size := fun x hx => (HM.out.lt x hx).1
  have hIK : ∀ k ∈ ks, IsN w3 (Up F w w3) (h + 1) k := fun k hk => ((HM.out.isn k hk).agree (hX3.agree hF2)).mono fun i hi => .inl hi
  have HIK := Lib.hid hIK
  have HFG := Lib.hid hFG
  clear hown3 hcc hX3 hP hI hIK hFG
  rcases hlen with hlen | hlen
  · obtain ⟨a, rfl⟩ := List.length_eq_one_iff.1 hlen
    rw [show two (h + 1) [a] = Ending.returned (.tuple #[ptr (h + 1) a, .pointer none]) from rfl]
    have hfin : ∀ w5, Wr (w3.setCell ⟨g, j, none⟩ (ptr (h + 1) a)) w5 (some g) → w5.ownsRow base 23 1 (.slice (some ⟨g, 0, none⟩) (ks.length - 1) cap) (ks.length - 1) (((ptrs (h + 1) ks).set j (ptr (h + 1) a)).take ((j + 1) * 1) ++ ((ptrs (h + 1) ks).set j (ptr (h + 1) a)).drop ((j + 1 + 1) * 1)) →
        MendPost F base (h + 1) ⟨some ⟨g, 0, none⟩, cap⟩ ks (j + 1) w (.returned (.slice (some ⟨g, 0, none⟩) (ks.length - 1) cap)) w5 := fun w5 hwr hown => by
      have hz : w3.heap.size ≤ w5.heap.size := by have := hwr.grown.size; rwa [World.size_setCell] at this
      have hag : Agree (Up F w w3) w3 w5 := (Agree.setCell w3 ⟨g, j, none⟩ _ (fun h => HFG.out _ g h rfl)).trans (hwr.agree (fun i hi => by rw [World.size_setCell]; exact hi.elim (fun h => Nat.lt_of_lt_of_le (hF2 i h) HX3.out.size) fun h => h.2) (fun k hk h => by cases hk; exact HFG.out _ g h rfl))
      have hup : ∀ i, Up F w w3 i → Up F w w5 i := fun i hi => hi.imp_right fun h => ⟨h.1, Nat.lt_of_lt_of_le h.2 hz⟩
      have e0 : (ptrs (h + 1) ks).set j (ptr (h + 1) a) = ptrs (h + 1) (ks.set j a) := by rw [ptrs, ptrs, List.map_set]
      have e1 : ((ptrs (h + 1) ks).set j (ptr (h + 1) a)).take ((j + 1) * 1) ++ ((ptrs (h + 1) ks).set j (ptr (h + 1) a)).drop ((j + 1 + 1) * 1) = ptrs (h + 1) (ks.take j ++ [a] ++ ks.drop (j + 2)) := by
        rw [e0, Nat.mul_one, Nat.mul_one, ← ptrs_take, ← ptrs_drop, ← ptrs_app, mend_list1 HCL.out HCR.out]
      have e2 : (ks.take j ++ [a] ++ ks.drop (j + 2)).length = ks.length - 1 := by simp only [List.length_append, List.length_take, List.length_drop, List.length_cons, List.length_nil]; omega
      rw [e1] at hown
      refine ⟨⟨some ⟨g, 0, none⟩, cap⟩, ks.take j ++ [a] ++ ks.drop (j + 2), by rw [e2], by rw [e2]; exact hown, ⟨l, r, [a], HCL.out, HCR.out, HP.out, rfl⟩, fun u hu => ?_, (((HX3.out.st (fun b => (⟨some ⟨g, 0, none⟩, cap⟩ : Sl).row = some b)).set (p := ⟨g, j, none⟩) (.inr rfl) _).trans (hwr.st fun i hi => hi))⟩
      refine IsN.mono hup (IsN.agree hag ?_)
      rcases List.mem_append.1 hu with hu | hu
      · rcases List.mem_append.1 hu with hu | hu
        · exact HIK.out u (List.mem_of_mem_take hu)
        · exact HI.out u hu
      · exact HIK.out u (List.mem_of_mem_drop hu)
    have hd := delN_any (s := ⟨some ⟨g, 0, none⟩, cap⟩) (n := ks.length) (xs := (ptrs (h + 1) ks).set j (ptr (h + 1) a)) (i := j + 1) (own_set HOWN3.out hlj (ptr (h + 1) a)) (by omega) (by omega) (fun u hu => by
      rcases List.mem_or_eq_of_mem_set hu with hu | rfl
      · exact ptrs_one (h + 1) ks u hu
      · rfl)
    have q1 : ((j + 1 : Nat) : Int) = ((j : Int) + 1) := by omega
    have q2 : ((j : Int) + 1) + 1 = ((j : Int) + 2) := by omega
    rw [q1, q2] at hd
    have HD := Lib.hid hd
    have HFIN := Lib.hid hfin
    clear hd hfin q1 q2 hF2
    go_wp2_with fail
    refine HD.out.mono ?_
    rintro e w5 ⟨rfl, hown5, hwr5⟩
    have HO5 := Lib.hid (HFIN.out w5 hwr5 hown5)
    clear hown5 hwr5
    go_wp2_with fail
    go_ret
    exact HO5.out
  · obtain ⟨a, b, rfl⟩ : ∃ a b, ts = [a, b] := by
      match ts, hlen with
      | [a, b], _ => exact ⟨a, b, rfl⟩
    rw [show two (h + 1) [a, b] = Ending.returned (.tuple #[ptr (h + 1) a, ptr (h + 1) b]) from rfl]
    have hfin : MendPost F base (h + 1) ⟨some ⟨g, 0, none⟩, cap⟩ ks (j + 1) w (.returned (.slice (some ⟨g, 0, none⟩) ks.length cap)) ((w3.setCell ⟨g, j, none⟩ (ptr (h + 1) a)).setCell ⟨g, j + 1, none⟩ (ptr (h + 1) b)) := by
      have hag : Agree (Up F w w3) w3 ((w3.setCell ⟨g, j, none⟩ (ptr (h + 1) a)).setCell ⟨g, j + 1, none⟩ (ptr (h + 1) b)) := (Agree.setCell w3 ⟨g, j, none⟩ _ (fun h => HFG.out _ g h rfl)).trans (Agree.setCell _ ⟨g, j + 1, none⟩ _ (fun h => HFG.out _ g h rfl))
      have e0 : ((ptrs (h + 1) ks).set j (ptr (h + 1) a)).set (j + 1) (ptr (h + 1) b) = ptrs (h + 1) ((ks.set j a).set (j + 1) b) := by rw [ptrs, ptrs, List.map_set, List.map_set]
      have e2 : (ks.take j ++ [a, b] ++ ks.drop (j + 2)).length = ks.length := by simp only [List.length_append, List.length_take, List.length_drop, List.length_cons, List.length_nil]; omega
      have hown := own_set (own_set HOWN3.out hlj (ptr (h + 1) a)) (i := j + 1) (by omega) (ptr (h + 1) b)
      rw [e0, mend_list HCL.out HCR.out] at hown
      refine ⟨⟨some ⟨g, 0, none⟩, cap⟩, ks.take j ++ [a, b] ++ ks.drop (j + 2), by rw [e2], by rw [e2]; exact hown, ⟨l, r, [a, b], HCL.out, HCR.out, HP.out, rfl⟩, fun u hu => ?_, (((HX3.out.st (fun b => (⟨some ⟨g, 0, none⟩, cap⟩ : Sl).row = some b)).set (p := ⟨g, j, none⟩) (.inr rfl) _).set (p := ⟨g, j + 1, none⟩) (.inr rfl) _)⟩
      refine IsN.mono (fun i hi => hi.imp_right fun h => ⟨h.1, by simpa using h.2⟩) (IsN.agree hag ?_)
      rcases List.mem_append.1 hu with hu | hu
      · rcases List.mem_append.1 hu with hu | hu
        · exact HIK.out u (List.mem_of_mem_take hu)
        · exact HI.out u hu
      · exact HIK.out u (List.mem_of_mem_drop hu)
    have HFIN := Lib.hid hfin
    clear hfin hF2
    go_wp2_with fail
    go_ret
    exact HFIN.out
theorem mend_any {w : World} {F : Nat → Prop} {base h i : Nat} {s : Sl} {ks : List (PT h)} {l r : PT h} (hm : MendIn w F base h s ks i l r) :
    Calls Tryz.prog 111 #[.slice s.a ks.length s.c, .int .i64 i] w (MendPost F base h s ks i w) := by
  match h, i, ks, l, r, hm with
  | 0, 0, _, _, _, hm => exact mend_zero0 hm
  | 0, j + 1, _, _, _, hm => exact mend_zero1 hm
  | h + 1, 0, _, _, _, hm => exact mend_succ0 hm
  | h + 1, j + 1, _, _, _, hm => exact mend_succ1 hm
def WoPost0 (nv : Value) (es : List Ent) (k : ByteArray) (w : World) (e : Ending) (w' : World) : Prop :=
  Ext w w' ∧ ((getE es k = none ∧ e = .returned (.tuple #[nv, .bool false])) ∨
    ((getE es k).isSome = true ∧ ∃ u : PT 0, e = .returned (.tuple #[ptr 0 u, .bool true]) ∧ u.2 = delE es k ∧ w.heap.size ≤ u.1 ∧ IsN w' (In w.heap.size w'.heap.size) 0 u))
theorem place_get {es : List Ent} (hs : Sorted es) (k : ByteArray) : decide ((es[posE es k]?).map Prod.fst = some k) = (getE es k).isSome := by
  rw [getE_pos hs]
  cases hx : es[posE es k]? with
  | none => simp
  | some e => by_cases hk : e.1 = k <;> simp [hk]
theorem without_leaf {w : World} {nv : Value} {es : List Ent} (hp : ∃ p, nv = .pointer p) (hh : Calls Tryz.prog 69 #[nv] w fun e w' => e = .returned (.int .i64 0) ∧ w = w') (he : Calls Tryz.prog 88 #[nv] w (EntriesPost es w))
    (hs : Sorted es) (h8 : es.length ≤ 8) (k : ByteArray) : Calls Tryz.prog 68 #[nv, .string k] w (WoPost0 nv es k w) := by
  obtain ⟨pp, rfl⟩ := hp
  have HS := Lib.hid hs
  clear hs
  go_enter Tryz.func68, Tryz.ntmps68
  go_wp2_with fail
  refine hh.mono ?_
  rintro e w1 ⟨rfl, rfl⟩
  go_wp2_with fail
  refine he.mono ?_
  intro e w1 hp
  obtain ⟨s, xs, rfl, hxs, ho, hx1⟩ := hp
  have hpl := place_any (w := w1) (s := s) (xs := xs) (ho.es.mono fun i hi => hi.2) k (by rw [hxs]; exact HS.out)
  rw [hxs] at hpl
  have hxl : xs.length = es.length := by rw [← hxs, List.length_map]
  have HXS := Lib.hid hxs
  have HO := Lib.hid ho
  have HX1 := Lib.hid hx1
  have hl8 : xs.length ≤ 8 := by omega
  have HXL := Lib.hid hxl
  obtain ⟨p, hp⟩ : ∃ p, posE es k = p := ⟨_, rfl⟩
  unfold PlacePost at hpl
  rw [place_get HS.out, hp] at hpl
  have HP := Lib.hid hp
  clear hxs ho hx1 he hh hxl hp
  cases hg : getE es k with
  | none =>
    rw [hg] at hpl
    have HG := Lib.hid hg
    clear hg
    go_wp2_with fail
    refine hpl.mono ?_
    rintro e w2 ⟨rfl, hx2⟩
    have HX2 := Lib.hid (HX1.out.trans hx2)
    clear hpl hx2
    go_wp2_with fail
    go_ret2
    exact ⟨HX2.out, .inl ⟨HG.out, rfl⟩⟩
  | some v =>
    rw [hg] at hpl
    have hpn : p < xs.length := by
      have h1 := getE_pos HS.out k
      rw [hg, HP.out] at h1
      rcases Nat.lt_or_ge p xs.length with h | h
      · exact h
      · rw [List.getElem?_eq_none (by rw [← HXL.out]; exact h)] at h1; cases h1
    have hde : delE es k = es.take p ++ es.drop (p + 1) := by
      have h1 := delE_pos HS.out k
      have h2 := place_get HS.out k
      rw [hg] at h2
      rw [if_pos (of_decide_eq_true h2), HP.out] at h1
      exact h1
    have HG := Lib.hid hg
    have HDE := Lib.hid hde
    have hw1 : IntKind.i64.wrap ((p : Int) + 1) = (p : Int) + 1 := by rw [IntKind.wrap_i64]; omega
    clear hg hde
    go_wp2_with fail
    refine hpl.mono ?_
    rintro e w2 ⟨rfl, hx2⟩
    have ho2 := HO.out.ext hx2
    have hd := delE_any (i := p) ho2.own (by omega) hpn (flatE_one xs)
    have HO2 := Lib.hid ho2
    have HX2 := Lib.hid (HX1.out.trans hx2)
    clear hpl hx2 ho2
    go_wp2_with fail
    refine hd.mono ?_
    rintro e w3 ⟨rfl, hown, hwr⟩
    have hrow : ∀ i, s.row = some i → w.heap.size ≤ i ∧ i < w2.heap.size := fun i hi => own_row HO2.out.own hi
    have e1 : (flatE xs).take (p * 7) ++ (flatE xs).drop ((p + 1) * 7) = flatE (xs.take p ++ xs.drop (p + 1)) := by rw [flatE_take, flatE_drop, flatE_app]
    rw [e1] at hown
    have hX3 : Ext w w3 := HX2.out.wr hwr (fun i hi => (hrow i hi).1)
    have hes : ES w3 (Lt w3.heap.size) s (xs.take p ++ xs.drop (p + 1)) := rd_es (by rw [List.length_append, List.length_take, List.length_drop]; omega) ((Rd.of_own hown).mono fun i hi => hi.2)
      (fun x hx => by
        have hxm : x ∈ xs := by
          rcases List.mem_append.1 hx with hx | hx
          · exact List.mem_of_mem_take hx
          · exact List.mem_of_mem_drop hx
        exact ⟨((HO2.out.vals x hxm).1.agree (hwr.agree (fun i hi => hi.1.2) (fun k hk h => h.2 hk))).mono fun i hi => Nat.lt_of_lt_of_le hi.1.2 hwr.grown.size, (HO2.out.vals x hxm).2⟩) (by rw [List.length_append, List.length_take, List.length_drop]; omega)
    have hme : (xs.take p ++ xs.drop (p + 1)).map LE.ent = delE es k := by rw [List.map_append, List.map_take, List.map_drop, HXS.out, HDE.out]
    have hlf := tleaf_any (n := xs.length - 1) hes (by rw [List.length_append, List.length_take, List.length_drop]; omega) (risingN_of (by rw [hme]; exact delE_sorted HS.out k)) (by rw [List.length_append, List.length_take, List.length_drop]; omega)
    rw [hme] at hlf
    have HX3 := Lib.hid hX3
    clear hd hown hwr hrow e1 hX3 hes hme
    go_wp2_with fail
    refine hlf.mono ?_
    rintro e w4 ⟨u, rfl, hu, hua, hun, hx4⟩
    have HU := Lib.hid hun
    clear hlf hun
    go_wp2_with fail
    go_ret2
    exact ⟨HX3.out.trans hx4, .inr ⟨by rw [HG.out]; rfl, u, rfl, hu, Nat.le_trans HX3.out.size hua, HU.out.mono fun i hi => ⟨Nat.le_trans HX3.out.size hi.1, hi.2⟩⟩⟩
def WoPost (F : Nat → Prop) (h : Nat) (t : PT h) (k : ByteArray) (w : World) (e : Ending) (w' : World) : Prop :=
  Ext w w' ∧ ((getE (ents h t) k = none ∧ e = .returned (.tuple #[ptr h t, .bool false])) ∨
    ((getE (ents h t) k).isSome = true ∧ ∃ u : PT h, e = .returned (.tuple #[ptr h u, .bool true]) ∧ DelR w.heap.size k h t u ∧ IsN w' (Up F w w') h u))
def WoPostS (F : Nat → Prop) (h : Nat) (t : PT (h + 1)) (k : ByteArray) (w : World) (e : Ending) (w' : World) : Prop :=
  Ext w w' ∧ ((getE (ents (h + 1) t) k = none ∧ e = .returned (.tuple #[ptr (h + 1) t, .bool false])) ∨
    ((getE (ents (h + 1) t) k).isSome = true ∧ ∃ ks' : List (PT h), DelK w.heap.size k h (DelR w.heap.size k h) t.2 ks' ∧
      ((∃ u, ks' = [u] ∧ e = .returned (.tuple #[ptr h u, .bool true]) ∧ IsN w' (Up F w w') h u) ∨
       (2 ≤ ks'.length ∧ ∃ c : PT (h + 1), c.2 = ks' ∧ w.heap.size ≤ addr (h + 1) c ∧ e = .returned (.tuple #[ptr (h + 1) c, .bool true]) ∧ IsN w' (Up F w w') (h + 1) c))))
def InnPost (F : Nat → Prop) (h : Nat) (ks' : List (PT h)) (w : World) (e : Ending) (w' : World) : Prop :=
  Ext w w' ∧ ((∃ u, ks' = [u] ∧ e = .returned (ptr h u) ∧ IsN w' (Up F w w') h u) ∨ (2 ≤ ks'.length ∧ ∃ c : PT (h + 1), c.2 = ks' ∧ w.heap.size ≤ addr (h + 1) c ∧ e = .returned (ptr (h + 1) c) ∧ IsN w' (Up F w w') (h + 1) c))
theorem without_end {w w6 : World} {F : Nat → Prop} {h : Nat} {k : ByteArray} {t : PT (h + 1)} {s6 : Sl} {ks' : List (PT h)} (hF : ∀ b, F b → b < w.heap.size) (ok : OkT (h + 1) t) (hs : Sorted (ents (h + 1) t)) (hc : (ents (h + 1) t).length ≤ 1000000) (hh : h + 1 < 1000000) (hg : (getE (ents (h + 1) t) k).isSome = true)
    (hX : Ext w w6) (hown : w6.ownsRow w.heap.size 23 1 (.slice s6.a ks'.length s6.c) ks'.length (ptrs h ks')) (hD : DelK w.heap.size k h (DelR w.heap.size k h) t.2 ks') (hI : ∀ u ∈ ks', IsN w6 (Up F w w6) h u) :
    Calls Tryz.prog 67 #[.slice s6.a ks'.length s6.c] w6 fun e w' => InnPost F h ks' w e w' := by
  obtain ⟨h1, h2, h3⟩ := delK_root hD ok hs hg
  have ok2 := ok.1
  have ok8 := ok.2.1
  by_cases hone : ks'.length = 1
  · obtain ⟨u, rfl⟩ := List.length_eq_one_iff.1 hone
    refine (tinner_one (s := s6) (k := u) (Rd.of_own hown)).mono ?_
    rintro e w' ⟨rfl, rfl⟩
    exact ⟨hX, .inl ⟨u, rfl, rfl, hI u (List.mem_singleton.2 rfl)⟩⟩
  · have hfl := hD.ents hs (kids_pos ok) (by omega) (fun x y hx hr => hr.ents (ok.2.2 x hx).1 (kid_sorted hs x hx))
    have hso : Sorted (ks'.flatMap (ents h)) := by rw [hfl]; exact delE_sorted hs k
    have hpos : ∀ x ∈ ks', 0 < (ents h x).length := fun x hx => ents_pos h x (h1 x hx).1 (by have := (h1 x hx).2; omega)
    have hk : Kids w6 (Up F w w6) h ks' := ⟨fun b hb => hb.elim (fun h => Nat.lt_of_lt_of_le (hF b h) hX.size) fun h => h.2, hI, rising_of hso hpos, hpos, fun x hx => by have := size_le8 (h1 x hx).1; omega, by
      unfold cnt
      rw [hfl]
      have h5 : (delE (t.2.flatMap (ents h)) k).length ≤ (t.2.flatMap (ents h)).length := (delE_sublist _ k).length_le
      have h6 : (t.2.flatMap (ents h)).length ≤ 1000000 := hc
      omega, by omega⟩
    refine (tinner_any ((Rd.of_own hown).mono fun i hi => hi.2) rfl hk (by omega) (by omega)).mono ?_
    rintro e w' ⟨c, rfl, hc2, hca, hcn, hx⟩
    refine ⟨hX.trans hx, .inr ⟨by omega, c, hc2, Nat.le_trans hX.size hca, rfl, hcn.mono fun i hi => ?_⟩⟩
    rcases hi with (hi | hi) | hi
    · exact .inl hi
    · exact .inr ⟨hi.1, Nat.lt_of_lt_of_le hi.2 hx.size⟩
    · exact .inr ⟨Nat.le_trans hX.size hi.1, hi.2⟩
theorem without_succ {h : Nat} {k : ByteArray}
    (ih : ∀ (w : World) (F : Nat → Prop) (t : PT h), (∀ b, F b → b < w.heap.size) → IsN w F h t → OkT h t → 4 ≤ size h t → Sorted (ents h t) → (ents h t).length ≤ 1000000 → Calls Tryz.prog 68 #[ptr h t, .string k] w (WoPost F h t k w))
    {w : World} {F : Nat → Prop} {t : PT (h + 1)} (hF : ∀ b, F b → b < w.heap.size) (hn : IsN w F (h + 1) t) (ok : OkT (h + 1) t) (hs : Sorted (ents (h + 1) t)) (hc : (ents (h + 1) t).length ≤ 1000000) :
    Calls Tryz.prog 68 #[ptr (h + 1) t, .string k] w (WoPostS F h t k w) := by
  have hpos := kids_pos ok
  have hh : h + 1 < 1000000 := Nat.lt_of_lt_of_le (height_lt (h + 1) t ok (by have := ok.1; show 1 ≤ t.2.length; omega)) hc
  obtain ⟨kid, hkid, hA, hC⟩ := which_split (h := h) (ks := t.2) hs hpos (by have := ok.1; omega) k
  have hkm' := List.mem_of_getElem? hkid
  have hil := (List.getElem?_eq_some_iff.1 hkid).1
  have hlen8 := ok.2.1
  have hlen2 := ok.1
  have hks : ∀ x ∈ t.2, IsN w F h x := hn.2.choose_spec.2.2
  have hkc : (ents h kid).length ≤ 1000000 := Nat.le_trans (by
    show _ ≤ (t.2.flatMap (ents h)).length
    rw [take_mid hkid]; simp only [List.flatMap_append, List.flatMap_cons, List.length_append]; omega) hc
  have hge : getE (ents (h + 1) t) k = getE (ents h kid) k := getE_kid hkid hA hC
  have hih : ∀ W, Ext w W → Calls Tryz.prog 68 #[ptr h kid, .string k] W (WoPost F h kid k W) := fun W hW =>
    ih W F kid (fun b hb => Nat.lt_of_lt_of_le (hF b hb) hW.size) ((hks kid hkm').agree (hW.agree hF)) (ok.2.2 kid hkm').1 (ok.2.2 kid hkm').2 (kid_sorted hs kid hkm') hkc
  have hdr : ∀ B u, (getE (ents (h + 1) t) k).isSome = true → DelR B k h kid u → OkT h u ∧ size h kid ≤ size h u + 1 ∧ size h u ≤ size h kid := fun B u hg hr => hr.ok (ok.2.2 kid hkm').1 (ok.2.2 kid hkm').2 (kid_sorted hs kid hkm') (by rw [← hge]; exact hg)
  have HF := Lib.hid hF
  have HN := Lib.hid hn
  have HS := Lib.hid hs
  have HP := Lib.hid hpos
  have HIH := Lib.hid hih
  have HKS := Lib.hid hks
  have HKID := Lib.hid hkid
  have HGE := Lib.hid hge
  have HOK := Lib.hid ok
  have HC := Lib.hid hc
  have HDR := Lib.hid hdr
  have hnz : (((h : Int) + 1) == 0) = false := beq_eq_false_iff_ne.2 (by omega)
  clear hF hn ok hs hc hpos hih hks hkid hA hC ih hkc hge hdr
  go_enter Tryz.func68, Tryz.ntmps68
  go_wp2_with fail
  refine (height_any HN.out).mono ?_
  rintro e w1 ⟨rfl, rfl⟩
  have hkc := kids_any HN.out (by omega)
  go_wp2_with fail
  refine hkc.mono ?_
  rintro e w1 ⟨s', rfl, hown, hx1⟩
  have hrd : Rd w1 (Lt w1.heap.size) 1 s' t.2.length (ptrs h t.2) := (Rd.of_own hown).mono fun i hi => hi.2
  have hwh := which_any hrd (fun x hx => (HKS.out x hx).agree (hx1.agree HF.out)) (fun b hb => Nat.lt_of_lt_of_le (HF.out b hb) hx1.size) HP.out k HS.out (by omega)
  obtain ⟨i, hi⟩ : ∃ i, whichK h t.2 k = i := ⟨_, rfl⟩
  rw [hi] at hwh hil
  have HI := Lib.hid hi
  have HWH := Lib.hid hwh
  have HO1 := Lib.hid hown
  have HX1 := Lib.hid hx1
  clear hi hwh hown hrd hkc hx1
  go_wp2_with fail
  refine HWH.out.mono ?_
  rintro e w2 ⟨rfl, hx2⟩
  have hX2 := HX1.out.trans hx2
  obtain ⟨g, cap, rfl, hbg, hnc, hcm, hfil⟩ := own_block HO1.out (by omega)
  have ho2 : w2.ownsRow w.heap.size 23 1 (.slice (some ⟨g, 0, none⟩) t.2.length cap) t.2.length (ptrs h t.2) := own_agree (s := ⟨some ⟨g, 0, none⟩, cap⟩) HO1.out (hx2.agree (F := Lt w1.heap.size) fun _ h => h) fun b hb => (own_row HO1.out hb).2
  have hkp : w2.cell? ⟨g, i, none⟩ = some (ptr h kid) := by
    have := ho2.cells (g := g) rfl i (ptr h kid) (by rw [ptrs, List.getElem?_map, ← HI.out, HKID.out]; rfl)
    rwa [add_at, Nat.zero_add] at this
  have hil' : (i : Int) < (t.2.length : Int) := by omega
  have hg2 : g < w2.heap.size := (own_row (s := ⟨some ⟨g, 0, none⟩, cap⟩) ho2 rfl).2
  have hih := HIH.out w2 hX2
  have HO2 := Lib.hid ho2
  have HX2 := Lib.hid hX2
  clear hx2 ho2 hX2 hfil
  go_wp2_with fail
  refine hih.mono ?_
  rintro e w3 ⟨hx3, (⟨hg, rfl⟩ | ⟨hg, u, rfl, hdu, hnu⟩)⟩
  · have HX3 := Lib.hid (HX2.out.trans hx3)
    have HG := Lib.hid hg
    clear hx3 hg hih
    go_wp2_with fail
    go_ret2
    exact ⟨HX3.out, .inl ⟨by rw [HGE.out]; exact HG.out, rfl⟩⟩
  · have hgt : (getE (ents (h + 1) t) k).isSome = true := by rw [HGE.out]; exact hg
    obtain ⟨ou, su1, su2⟩ := HDR.out _ u hgt hdu
    have hsz3 : 3 ≤ size h u := by have := (HOK.out.2.2 kid (List.mem_of_getElem? HKID.out)).2; omega
    have hsz8 : size h u ≤ 8 := size_le8 ou
    have hx3s := hx3.size
    have hx2s := HX2.out.size
    have hgF : ∀ b, Up F w2 w3 b → b ≠ g := fun b hb e => by
      subst e
      rcases hb with hb | hb
      · have := HF.out _ hb; have hbg : w.heap.size ≤ b := hbg; omega
      · omega
    have hown3 : w3.ownsRow w.heap.size 23 1 (.slice (some ⟨g, 0, none⟩) t.2.length cap) t.2.length (ptrs h t.2) := own_agree (s := ⟨some ⟨g, 0, none⟩, cap⟩) HO2.out (hx3.agree (F := Lt w2.heap.size) fun _ h => h) fun b hb => (own_row (s := ⟨some ⟨g, 0, none⟩, cap⟩) HO2.out hb).2
    have hown4 := own_set hown3 (i := i) (by omega) (ptr h u)
    have e0 : (ptrs h t.2).set i (ptr h u) = ptrs h (t.2.set i u) := by rw [ptrs, ptrs, List.map_set]
    rw [e0] at hown4
    have kc3 : w3.cell? ⟨g, i, none⟩ = some (ptr h kid) := (hx3.cell hg2).trans hkp
    have fz3 : ∀ o, w3.frozen? ⟨g, o, none⟩ = false := by
      obtain ⟨g', cap', e1, -, -, -, hfl⟩ := own_block (s := ⟨some ⟨g, 0, none⟩, cap⟩) hown3 (by omega)
      obtain ⟨rfl, rfl⟩ : g = g' ∧ cap = cap' := by simpa using e1
      exact hfl.frozen
    have hX4 := (HX2.out.trans hx3).setCell (p := ⟨g, i, none⟩) hbg (ptr h u)
    have hag4 : Agree (Up F w2 w3) w3 (w3.setCell ⟨g, i, none⟩ (ptr h u)) := Agree.setCell w3 ⟨g, i, none⟩ _ (fun h => hgF g h rfl)
    have hI4 : ∀ x ∈ t.2.set i u, IsN (w3.setCell ⟨g, i, none⟩ (ptr h u)) (Up F w2 w3) h x := fun x hx => by
      rcases List.mem_or_eq_of_mem_set hx with hx | rfl
      · exact (((HKS.out x hx).agree ((HX2.out.trans hx3).agree HF.out)).mono fun b hb => .inl hb).agree hag4
      · exact hnu.agree hag4
    have hu4 := hI4 u (List.mem_set (by omega) u)
    have hsc := size_any hu4 (by omega)
    have hz4 : (w3.setCell ⟨g, i, none⟩ (ptr h u)).heap.size = w3.heap.size := by simp
    have hdu' := hdu.mono hx2s
    have hkid := HKID.out
    rw [HI.out] at hkid
    have hDK : ∀ ks', ((4 ≤ size h u ∧ ks' = t.2.set i u) ∨ (size h u < 4 ∧ Mend w.heap.size h (t.2.set i u) i ks')) → DelK w.heap.size k h (DelR w.heap.size k h) t.2 ks' := fun ks' hks => by
      refine ⟨kid, u, HKID.out, hdu', ?_⟩
      rw [HI.out]
      exact hks
    have heq : (t.2.set i u).flatMap (ents h) = delE (t.2.flatMap (ents h)) k := by
      obtain ⟨kid2, hk3, hA, hC⟩ := which_split (h := h) (ks := t.2) HS.out HP.out (by omega) k
      rw [HKID.out] at hk3
      simp only [Option.some.injEq] at hk3
      subst hk3
      rw [HI.out] at hA hC
      rw [set_mid hkid]
      simp only [List.flatMap_append, List.flatMap_cons]
      have e1 := hdu.ents (HOK.out.2.2 kid (List.mem_of_getElem? hkid)).1 (kid_sorted HS.out kid (List.mem_of_getElem? hkid))
      conv => rhs; rw [take_mid hkid]
      rw [List.flatMap_append, List.flatMap_cons, delE_app hA, delE_stop hC, e1]
    have hso : Sorted ((t.2.set i u).flatMap (ents h)) := by
      rw [heq]
      exact delE_sorted HS.out k
    have hfl : ((t.2.set i u).flatMap (ents h)).length ≤ 1000000 := by
      rw [heq]
      exact Nat.le_trans (delE_sublist _ k).length_le HC.out
    have HFL := Lib.hid hfl
    have HU := Lib.hid hsc
    have HDK := Lib.hid hDK
    have HX4 := Lib.hid hX4
    have HO4 := Lib.hid hown4
    have HI4 := Lib.hid hI4
    have HSO := Lib.hid hso
    have HGT := Lib.hid hgt
    have HOU := Lib.hid ou
    have HGF := Lib.hid hgF
    have hgb : g < w3.heap.size := by omega
    clear hih hg hdu hnu hgt ou hown3 hown4 e0 hX4 hag4 hI4 hu4 hsc hdu' hkid hDK heq hso hfl hx3 hgF
    go_wp2_with fail
    generalize hW4 : World.setCell _ _ _ = W4 at *
    refine HU.out.mono ?_
    rintro e w5 ⟨rfl, q, rfl⟩
    have hX5 := HX4.out.drewN q
    have hst5 : Agree (Up F w2 w3) W4 (W4.drewN q) := Agree.drewN W4 q
    have ho5 : (W4.drewN q).ownsRow w.heap.size 23 1 (.slice (some ⟨g, 0, none⟩) t.2.length cap) t.2.length (ptrs h (t.2.set i u)) := HO4.out
    have hz5 : (W4.drewN q).heap.size = w3.heap.size := hz4
    have hI5 : ∀ x ∈ t.2.set i u, IsN (W4.drewN q) (Up F w2 w3) h x := fun x hx => (HI4.out x hx).agree hst5
    generalize W4.drewN q = W5 at *
    have HX5 := Lib.hid hX5
    have HO5 := Lib.hid ho5
    have HI5 := Lib.hid hI5
    have HZ5 := Lib.hid hz5
    have hlen : (t.2.set i u).length = t.2.length := by rw [List.length_set]
    clear hX5 hst5 ho5 hI5 hz5 kc3 fz3 hz4 hW4
    by_cases h4 : size h u < 4
    · have h4' : (size h u : Int) < 4 := by omega
      obtain ⟨l, hl⟩ : ∃ l, (t.2.set i u)[i - 1]? = some l := ⟨_, List.getElem?_eq_getElem (by omega)⟩
      obtain ⟨r, hr⟩ : ∃ r, (t.2.set i u)[i - 1 + 1]? = some r := ⟨_, List.getElem?_eq_getElem (by omega)⟩
      have hoth : ∀ x ∈ t.2.set i u, OkT h x ∧ 3 ≤ size h x := fun x hx => by
        rcases List.mem_or_eq_of_mem_set hx with hx | rfl
        · exact ⟨(HOK.out.2.2 x hx).1, by have := (HOK.out.2.2 x hx).2; omega⟩
        · exact ⟨HOU.out, hsz3⟩
      have hsum : size h l + size h r ≤ 11 := by
        have h8 : ∀ x ∈ t.2.set i u, size h x ≤ 8 := fun x hx => size_le8 (hoth x hx).1
        have hl8 := h8 l (List.mem_of_getElem? hl)
        have hr8 := h8 r (List.mem_of_getElem? hr)
        have hgi : (t.2.set i u)[i]? = some u := by rw [List.getElem?_set_self (by omega)]
        by_cases h0 : i = 0
        · subst h0
          rw [hgi] at hl
          simp only [Option.some.injEq] at hl
          subst hl; omega
        · rw [show i - 1 + 1 = i from by omega, hgi] at hr
          simp only [Option.some.injEq] at hr
          subst hr; omega
      have hmend := mend_any (w := W5) (F := Up F w2 w3) (base := w.heap.size) (s := ⟨some ⟨g, 0, none⟩, cap⟩) (i := i) (ks := t.2.set i u) (l := l) (r := r)
        ⟨by rw [hlen]; exact HO5.out, HX5.out.size, fun b hb => ⟨by rw [HZ5.out]; exact hb.elim (fun h => by have := HF.out b h; have := HX2.out.size; omega) fun h => h.2, fun e => by simp [Sl.row] at e; exact HGF.out b hb e.symm⟩, HI5.out, hoth, hl, hr, hsum, HSO.out, by
          have := HFL.out
          omega, by omega, by omega⟩
      rw [hlen] at hmend
      have HM := Lib.hid hmend
      clear hl hr hoth hsum hmend
      go_wp2_with fail
      refine HM.out.mono ?_
      rintro e w6 ⟨s6, ks6, rfl, hown6, hm6, hI6, hst6⟩
      have hX6 : Ext w w6 := HX5.out.step hst6 (fun b hb => by simp only [Sl.row, Option.map_some, Option.some.injEq] at hb; have hbg : w.heap.size ≤ g := hbg; omega)
      have D := HDK.out ks6 (.inr ⟨h4, hm6.mono HX5.out.size⟩)
      have hIw : ∀ x ∈ ks6, IsN w6 (Up F w w6) h x := fun x hx => (hI6 x hx).mono fun b hb => by
        have hz := HZ5.out
        have hz6 := hst6.size
        rcases hb with (hb | hb) | hb
        · exact .inl hb
        · exact .inr ⟨by omega, by omega⟩
        · exact .inr ⟨by omega, hb.2⟩
      have hend := without_end HF.out HOK.out HS.out HC.out hh HGT.out hX6 hown6 D hIw
      have HD := Lib.hid D
      have HE := Lib.hid hend
      clear hown6 hm6 hI6 hst6 hX6 D hIw hend
      go_wp2_with fail
      refine HE.out.mono ?_
      rintro e w7 ⟨hx, (⟨v, hv, rfl, hnv⟩ | ⟨hv, c, hcc, hca, rfl, hcn⟩)⟩
      · have H1 := Lib.hid hx
        have H2 := Lib.hid hnv
        clear hx hnv
        go_wp2_with fail
        go_ret2
        exact ⟨H1.out, .inr ⟨HGT.out, ks6, HD.out, .inl ⟨v, hv, rfl, H2.out⟩⟩⟩
      · have H1 := Lib.hid hx
        have H2 := Lib.hid hcn
        clear hx hcn
        go_wp2_with fail
        go_ret2
        exact ⟨H1.out, .inr ⟨HGT.out, ks6, HD.out, .inr ⟨hv, c, hcc, hca, rfl, H2.out⟩⟩⟩
    · have h4' : ¬ (size h u : Int) < 4 := by omega
      have D := HDK.out _ (.inl ⟨by omega, rfl⟩)
      have hIw : ∀ x ∈ t.2.set i u, IsN W5 (Up F w W5) h x := fun x hx => (HI5.out x hx).mono fun b hb => by
        have hz := HZ5.out
        rcases hb with hb | hb
        · exact .inl hb
        · exact .inr ⟨by omega, by omega⟩
      have hend := without_end (s6 := ⟨some ⟨g, 0, none⟩, cap⟩) HF.out HOK.out HS.out HC.out hh HGT.out HX5.out (by rw [hlen]; exact HO5.out) D hIw
      rw [hlen] at hend
      have HD := Lib.hid D
      have HE := Lib.hid hend
      clear D hIw hend
      go_wp2_with fail
      refine HE.out.mono ?_
      rintro e w7 ⟨hx, (⟨v, hv, rfl, hnv⟩ | ⟨hv, c, hcc, hca, rfl, hcn⟩)⟩
      · have H1 := Lib.hid hx
        have H2 := Lib.hid hnv
        clear hx hnv
        go_wp2_with fail
        go_ret2
        exact ⟨H1.out, .inr ⟨HGT.out, _, HD.out, .inl ⟨v, hv, rfl, H2.out⟩⟩⟩
      · have H1 := Lib.hid hx
        have H2 := Lib.hid hcn
        clear hx hcn
        go_wp2_with fail
        go_ret2
        exact ⟨H1.out, .inr ⟨HGT.out, _, HD.out, .inr ⟨hv, c, hcc, hca, rfl, H2.out⟩⟩⟩
theorem without_any {k : ByteArray} : ∀ (h : Nat) (w : World) (F : Nat → Prop) (t : PT h), (∀ b, F b → b < w.heap.size) → IsN w F h t → OkT h t → 4 ≤ size h t → Sorted (ents h t) → (ents h t).length ≤ 1000000 → Calls Tryz.prog 68 #[ptr h t, .string k] w (WoPost F h t k w)
  | 0, w, F, t, hF, hn, ok, h4, hs, hc => by
    refine (without_leaf ⟨_, rfl⟩ (height_any hn) (entries_any (hn.mono hF)) hs (show t.2.length ≤ 8 from ok) k).mono ?_
    rintro e w' ⟨hx, (⟨hg, rfl⟩ | ⟨hg, u, rfl, hu, hb, hn'⟩)⟩
    · exact ⟨hx, .inl ⟨hg, rfl⟩⟩
    · exact ⟨hx, .inr ⟨hg, u, rfl, ⟨hu, hb⟩, hn'.mono fun i hi => .inr hi⟩⟩
  | h + 1, w, F, t, hF, hn, ok, h4, hs, hc => by
    refine (without_succ (without_any (k := k) h) hF hn ok hs hc).mono ?_
    rintro e w' ⟨hx, (⟨hg, rfl⟩ | ⟨hg, ks', hd, h2⟩)⟩
    · exact ⟨hx, .inl ⟨hg, rfl⟩⟩
    · have h4 : 4 ≤ t.2.length := h4
      have := (delK_root hd ok hs hg).2.2
      rcases h2 with ⟨u, rfl, -, -⟩ | ⟨-, c, rfl, hb, rfl, hn'⟩
      · simp only [List.length_cons, List.length_nil] at this; omega
      · exact ⟨hx, .inr ⟨hg, c, rfl, ⟨hd, hb⟩, hn'⟩⟩
def WoPostT (F : Nat → Prop) (T : RT) (k : ByteArray) (w : World) (e : Ending) (w' : World) : Prop :=
  Ext w w' ∧ ((getE (entsT T) k = none ∧ e = .returned (.tuple #[rootV T, .bool false])) ∨
    ((getE (entsT T) k).isSome = true ∧ ∃ (h : Nat) (u : PT h), e = .returned (.tuple #[ptr h u, .bool true]) ∧ IsN w' (Up F w w') h u ∧
      ((ents h u = [] ∧ DelT w.heap.size k T none) ∨ (0 < (ents h u).length ∧ DelT w.heap.size k T (some ⟨h, u⟩)))))
theorem withoutT_any {w : World} {F : Nat → Prop} {T : RT} (hF : ∀ b, F b → b < w.heap.size) (hT : IsT w F T) (ok : OkR T) (hc : (entsT T).length ≤ 1000000) (k : ByteArray) :
    Calls Tryz.prog 68 #[rootV T, .string k] w (WoPostT F T k w) := by
  match T, hT, ok, hc with
  | none, _, _, _ =>
    refine (without_leaf (nv := .pointer none) (es := []) ⟨none, rfl⟩ (height_nil w) ((entries_nil w).mono ?_) List.Pairwise.nil (by simp) k).mono ?_
    · rintro e w' ⟨rfl, rfl⟩
      exact ⟨Sl.none, [], rfl, rfl, OE.nil _ _, Ext.refl _⟩
    · rintro e w' ⟨hx, (⟨hg, rfl⟩ | ⟨hg, u, rfl, hu, hb, hn'⟩)⟩
      · exact ⟨hx, .inl ⟨hg, rfl⟩⟩
      · simp [getE] at hg
  | some ⟨0, t⟩, hn, ok, hc =>
    have hn : IsN w F 0 t := hn
    refine (without_leaf ⟨_, rfl⟩ (height_any hn) (entries_any (hn.mono hF)) ok.2.2 (show t.2.length ≤ 8 from ok.1) k).mono ?_
    rintro e w' ⟨hx, (⟨hg, rfl⟩ | ⟨hg, u, rfl, hu, hb, hn'⟩)⟩
    · exact ⟨hx, .inl ⟨hg, rfl⟩⟩
    · refine ⟨hx, .inr ⟨hg, 0, u, rfl, hn'.mono fun i hi => .inr hi, ?_⟩⟩
      by_cases h0 : ents 0 u = []
      · exact .inl ⟨h0, .gone hg ⟨hu, hb⟩ h0⟩
      · have := List.length_pos_iff.2 h0
        exact .inr ⟨this, .same hg ⟨hu, hb⟩ this (.inl rfl)⟩
  | some ⟨h + 1, t⟩, hn, ok, hc =>
    refine (without_succ (without_any (k := k) h) hF hn ok.1 ok.2.2 hc).mono ?_
    rintro e w' ⟨hx, (⟨hg, rfl⟩ | ⟨hg, ks', hd, h2⟩)⟩
    · exact ⟨hx, .inl ⟨hg, rfl⟩⟩
    · have hko := (delK_root hd ok.1 ok.2.2 hg).1
      rcases h2 with ⟨u, rfl, rfl, hn'⟩ | ⟨hl, c, rfl, hb, rfl, hn'⟩
      · have := hko u (List.mem_singleton.2 rfl)
        exact ⟨hx, .inr ⟨hg, h, u, rfl, hn', .inr ⟨ents_pos h u this.1 (by omega), .down hg hd⟩⟩⟩
      · have hp : 0 < (ents (h + 1) c).length := by
          obtain ⟨x, hxm⟩ := List.exists_mem_of_length_pos (show 0 < c.2.length by omega)
          have h1 := hko x hxm
          have h2 := ents_pos h x h1.1 (by omega)
          show 0 < (c.2.flatMap (ents h)).length
          obtain ⟨e, he⟩ := List.exists_mem_of_length_pos h2
          exact List.length_pos_of_mem (List.mem_flatMap.2 ⟨x, hxm, he⟩)
        exact ⟨hx, .inr ⟨hg, h + 1, c, rfl, hn', .inr ⟨hp, .same hg ⟨hd, hb⟩ hp (.inr hl)⟩⟩⟩
def DelPost (F : Nat → Prop) (T : RT) (k : ByteArray) (w : World) (e : Ending) (w' : World) : Prop :=
  ∃ T', e = .returned (.tuple #[treeV T', .bool (getE (entsT T) k).isSome]) ∧ DelT w.heap.size k T T' ∧ IsT w' (Up F w w') T' ∧ Ext w w'
theorem delete_any {w : World} {F : Nat → Prop} {T : RT} (hF : ∀ b, F b → b < w.heap.size) (hT : IsT w F T) (ok : OkR T) (hc : (entsT T).length ≤ 1000000) (k : ByteArray) :
    Calls Tryz.prog 41 #[treeV T, .string k] w (DelPost F T k w) := by
  have hcw : ∀ W, Ext w W → Calls Tryz.prog 68 #[rootV T, .string k] W (WoPostT F T k W) := fun W hW =>
    withoutT_any (fun b hb => Nat.lt_of_lt_of_le (hF b hb) hW.size) (hT.agree (hW.agree hF)) ok hc k
  have hct : ∀ W, Ext w W → Calls Tryz.prog 46 #[rootV T] W fun e w' => e = .returned (.int .i64 (entsT T).length) ∧ W = w' := fun W hW => countR_any (hT.agree (hW.agree hF))
  have hnil : entsT T = [] → T = none := fun h0 => by
    match T, ok, h0 with
    | none, _, _ => rfl
    | some ⟨h, t⟩, ok, h0 => have := ents_pos h t ok.1 ok.2.1; have h0 : ents h t = [] := h0; rw [h0] at this; cases this
  have hpn : ∃ p, rootV T = .pointer p := rootV_ptr T
  obtain ⟨rp, hrp⟩ := hpn
  rw [hrp] at hcw hct
  have HW := Lib.hid hcw
  have HCT := Lib.hid hct
  have HF := Lib.hid hF
  have HOK := Lib.hid ok
  have HT := Lib.hid hT
  have HNIL := Lib.hid hnil
  have HRP := Lib.hid hrp
  clear hF hT ok hcw hct hnil
  rw [treeV, hrp]
  clear hrp
  go_enter Tryz.func41, Tryz.ntmps41
  go_wp2_with fail
  have hx3 : Ext w ((w.alloc (.cells #[.pointer rp] 25)).alloc (.cells #[.pointer none] 25)) := ((Ext.refl w).alloc _ _).alloc _ _
  have hb3 : Blk ((w.alloc (.cells #[.pointer rp] 25)).alloc (.cells #[.pointer none] 25)) (w.heap.size + 1) 25 #[.pointer none] := by
    have := Blk.new (w.alloc (.cells #[.pointer rp] 25)) 25 #[.pointer none]
    simpa using this
  generalize hW3 : World.alloc _ _ = W3 at *
  have hz3 : W3.heap.size = w.heap.size + 1 + 1 := by rw [← hW3]; simp
  clear hW3
  refine (HW.out _ hx3).mono ?_
  rintro e w4 ⟨hx4, hor⟩
  have hb4 := hb3.ext hx4
  have hX4 := hx3.trans hx4
  have q4 : w4.cell? ⟨w.heap.size + 1, 0, none⟩ = some (.pointer none) := hb4.cell 0
  have f4 := hb4.frozen 0
  have hl4 := hb4.lt
  have HX := Lib.hid hX4
  have hnF : ∀ W', ¬ Up F W3 W' (w.heap.size + 1) := fun W' hf => by
    rcases hf with hf | hf
    · have := HF.out _ hf; omega
    · have := hf.1; omega
  have HNF := Lib.hid hnF
  have hwW : w.heap.size ≤ W3.heap.size := by omega
  clear hb3 hb4 hX4 hx3 hx4 hnF
  have hone : ∃ T1 b, e = .returned (.tuple #[rootV T1, .bool b]) ∧ b = (getE (entsT T) k).isSome ∧ IsT w4 (Up F W3 w4) T1 ∧ ((entsT T1).length = 0 → DelT w.heap.size k T none) ∧ ((entsT T1).length ≠ 0 → DelT w.heap.size k T T1) := by
    rcases hor with ⟨hg, rfl⟩ | ⟨hg, h, u, rfl, hn', hd⟩
    · refine ⟨T, false, by rw [HRP.out], by rw [hg]; rfl, (HT.out.agree (HX.out.agree HF.out)).mono fun i hi => .inl hi, fun h0 => ?_, fun _ => .no hg⟩
      have := HNIL.out (List.eq_nil_of_length_eq_zero h0)
      subst this
      exact .no hg
    · refine ⟨some ⟨h, u⟩, true, rfl, hg.symm, hn', fun h0 => ?_, fun h0 => ?_⟩
      · exact (hd.resolve_right fun hc => by have h0 : (ents h u).length = 0 := h0; omega).2.mono hwW
      · exact (hd.resolve_left fun h => h0 (by show (ents _ u).length = 0; rw [h.1]; rfl)).2.mono hwW
  obtain ⟨T1, b, rfl, hb, hT1, hd0, hd1⟩ := hone
  have hcn := countR_any hT1
  obtain ⟨p1, hp1⟩ := rootV_ptr T1
  have hfin : ∀ W', Agree (Up F W3 w4) w4 W' → w4.heap.size ≤ W'.heap.size → IsT W' (Up F w W') T1 := fun W' ha hs => (hT1.agree ha).mono fun i hi => hi.elim .inl fun hi => .inr ⟨Nat.le_trans hwW hi.1, Nat.lt_of_lt_of_le hi.2 hs⟩
  rw [hp1] at hcn
  have HP1 := Lib.hid hp1
  have HCN := Lib.hid hcn
  have HB := Lib.hid hb
  have HFIN := Lib.hid hfin
  have HD0 := Lib.hid hd0
  have HD1 := Lib.hid hd1
  rw [hp1]
  clear hor hp1 hcn hb hfin hd0 hd1 hT1
  go_wp2_with fail
  refine HCN.out.mono ?_
  rintro e w5 ⟨rfl, rfl⟩
  by_cases h0 : (entsT T1).length = 0
  · have h0' : (((entsT T1).length : Int) == 0) = true := by simp [h0]
    go_wp2_with fail
    have q0 : (w4.setCell ⟨w.heap.size + 1, 0, none⟩ (.pointer none)).cell? ⟨w.heap.size + 1, 0, none⟩ = some (.pointer none) := World.cell?_setCell_same w4 _ _ q4
    refine bodyPost_ret (v := .tuple #[treeV none, .bool b]) (by simp [results, Tryz.results41, go_sem, q0]; rfl) rfl ?_
    rw [HB.out]
    exact ⟨none, rfl, HD0.out h0, trivial, HX.out.setCell (p := ⟨w.heap.size + 1, 0, none⟩) (by show w.heap.size ≤ w.heap.size + 1; omega) _⟩
  · have h0' : (((entsT T1).length : Int) == 0) = false := beq_eq_false_iff_ne.2 (by omega)
    go_wp2_with fail
    have q0 : (w4.setCell ⟨w.heap.size + 1, 0, none⟩ (.pointer p1)).cell? ⟨w.heap.size + 1, 0, none⟩ = some (.pointer p1) := World.cell?_setCell_same w4 _ _ q4
    refine bodyPost_ret (v := .tuple #[treeV T1, .bool b]) (by rw [treeV, HP1.out]; simp [results, Tryz.results41, go_sem, q0]) rfl ?_
    rw [HB.out]
    exact ⟨T1, rfl, HD1.out h0, HFIN.out _ (Agree.setCell w4 ⟨w.heap.size + 1, 0, none⟩ _ (HNF.out w4)) (by simp), HX.out.setCell (p := ⟨w.heap.size + 1, 0, none⟩) (by show w.heap.size ≤ w.heap.size + 1; omega) _⟩
def Leads (w : World) (p : Option Addr) : Prop := ∀ a, p = some a → ∃ c t, w.heap[a.block]? = some (.cells c t (0, 0))
theorem Leads.agree {w w' : World} {p : Option Addr} (h : Leads w p) {F : Nat → Prop} (ha : Agree F w w') (hF : ∀ a, p = some a → F a.block) : Leads w' p := fun a e => by
  obtain ⟨c, t, hc⟩ := h a e
  exact ⟨c, t, (ha _ (hF a e)).trans hc⟩
theorem Leads.ext {w w' : World} {p : Option Addr} (h : Leads w p) (he : Ext w w') : Leads w' p := fun a e => by
  obtain ⟨c, t, hc⟩ := h a e
  have hl : a.block < w.heap.size := (Array.getElem?_eq_some_iff.1 hc).1
  exact ⟨c, t, (he.heap hl).trans hc⟩
theorem PutR.mono {A B : Nat} (hAB : A ≤ B) {k : ByteArray} {v : Val} {T T' : RT} (h : PutR B k v T T') : PutR A k v T T' := by
  cases h with
  | one hw => exact .one (hw.mono hAB)
  | two hw hc hb => exact .two (hw.mono hAB) hc (Nat.le_trans hAB hb)
theorem MapAt.wide {H : Nat → Prop} {w : World} {M : Nat} {es : List Ent} (h : MapAt H w M es) (N : Nat) : MapAt (fun b => H b ∨ (w.heap.size ≤ b ∧ b < N)) w M es :=
  h.more (fun b hb => .inl hb) fun b hb hg => hg.elim id fun hh => by omega
section
variable {H : Nat → Prop} {w : World} {M : Nat} {T : RT} {a : LA}
theorem NH.st {H : Nat → Prop} {w w' : World} {M : Nat} (h : St (fun b => b = M) w w') (hm : H M) {b : Nat} (hb : NH H w b) : NH H w' b := ⟨Nat.lt_of_lt_of_le hb.1 h.size, hb.2⟩
theorem NH.agree {H : Nat → Prop} {w w' : World} {M : Nat} (h : St (fun b => b = M) w w') (hm : H M) : Agree (NH H w) w w' := fun b hb => h.block b hb.1 fun e => hb.2 (e ▸ hm)
theorem DelT.none {B : Nat} {k : ByteArray} {T T' : RT} (hd : DelT B k T T') (hg : (getE (entsT T) k).isSome = false) : T' = T := by
  cases hd with
  | no h => rfl
  | same h1 => rw [show getE (entsT _) k = _ from rfl] at hg; rw [getE_entsT] at hg; rw [h1] at hg; cases hg
  | gone h1 => rw [getE_entsT] at hg; rw [h1] at hg; cases hg
  | down h1 => rw [getE_entsT] at hg; rw [h1] at hg; cases hg
end
end Go.Proofs.YtechahocffcbpaaGreatDoor
namespace Go.Proofs.YtechahocffcbpaaGreatDoor
section
variable {P : Program} {ops : Array Oper} {Q : Exit → Act → World → Prop} {md : Region.Mode} {S : World → Prop}
theorem held_two {i j : Nat} {oi oj : Oper} {fuel : Nat} {listed : Array Bool} {a : Act} {w : World} (hr : Region.ready md ops listed = [i, j]) (hi : ops[i]? = some oi) (hj : ops[j]? = some oj) (hw : Region.wanted oi (yielded ops a.tmps) = true) (hv : Region.wanted oj (yielded ops a.tmps) = true)
    (h : ∀ K' : Act → World → Prop, Shut (∀ a w, S w → (S w → wpAnyH P md ops Q S fuel (listed.setIfInBounds i true) a w) → K' a w) → Oper.wp P oi a w K' Q)
    (h' : ∀ K' : Act → World → Prop, Shut (∀ a w, S w → (S w → wpAnyH P md ops Q S fuel (listed.setIfInBounds j true) a w) → K' a w) → Oper.wp P oj a w K' Q) : wpAnyH P md ops Q S (fuel + 1) listed a w :=
  wpAnyH_ready hr (by simp) (AllReadyH.cons hi (fun K' hK => by rw [if_pos hw]; exact h K' hK) (AllReadyH.cons hj (fun K' hK => by rw [if_pos hv]; exact h' K' hK) AllReadyH.nil))
end
end Go.Proofs.YtechahocffcbpaaGreatDoor
