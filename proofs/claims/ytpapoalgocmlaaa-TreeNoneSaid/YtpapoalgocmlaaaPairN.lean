/- tree.pair, by the cells of its two rows (elements of 1 cells). Written by program for two element types. -/
import Derived.Test.YtpapoalgocmlaaaInsertN
import Derived.Test.YtpapoalgocmlaaaSt
import Derived.Test.YtpapoalgocmlaaaStep
import Derived.Test.YtpapoalgocmlaaaWith2
namespace Go.Proofs.Ytpapoalgocmlaaa
open Go.RowKit
set_option linter.unusedVariables false
set_option linter.unusedSimpArgs false

/-- The two rows. -/
abbrev RowsN (sl sr : Sl) : Nat → Prop := fun b => sl.row = some b ∨ sr.row = some b
/-- What the builder hands back. -/
def BPostN (P : Nat → World → Prop) (W : World) (e : Ending) (W' : World) : Prop := ∃ a, e = .returned (.pointer (some ⟨a, 0, none⟩)) ∧ W.heap.size ≤ a ∧ P a W' ∧ Ext W W'
theorem own_stN {w W : World} {base n : Nat} {s : Sl} {xs : List Value} {G : Nat → Prop} (h : w.ownsRow base 28 1 (.slice s.a n s.c) n xs) (hs : St G w W) (hG : ∀ b, s.row = some b → ¬ G b) : W.ownsRow base 28 1 (.slice s.a n s.c) n xs :=
  own_agree h hs.agree fun b hb => ⟨(own_row h hb).2, hG b hb⟩
theorem rd_takeN {w : World} {F : Nat → Prop} {n m : Nat} {s : Sl} {cs : List Value} (h : Rd w F 1 s n cs) (hm : m ≤ n) : Rd w F 1 s m (cs.take (m * 1)) := h.take hm
theorem lastN {ls : List Value} {n : Nat} (hl : ls.length = n * 1) (hn : 0 < n) (hp : ∀ u ∈ ls, ∃ p, u = Value.pointer p) : ∃ v0 : Option Addr, ls.drop ((n - 1) * 1) = [.pointer v0] := by
  have h : (ls.drop ((n - 1) * 1)).length = 1 := by rw [List.length_drop, hl]; omega
  match hd : ls.drop ((n - 1) * 1), h with
  | [x], _ => obtain ⟨p, hq⟩ := hp x (List.mem_of_mem_drop (by rw [hd]; exact List.mem_singleton.2 rfl)); exact ⟨p, by rw [hq]⟩

section
variable {w : World} {base m nr : Nat} {sl sr : Sl} {ls rs : List Value} {P1 P2 : Nat → World → Prop}
set_option maxRecDepth 100000 in
set_option maxHeartbeats 1000000 in
theorem pairN_left (hL : w.ownsRow base 28 1 (.slice sl.a (m + 1) sl.c) (m + 1) ls) (hR : w.ownsRow base 28 1 (.slice sr.a nr sr.c) nr rs) (hb : base ≤ w.heap.size) (hne : ∀ b, sl.row = some b → sr.row ≠ some b)
    (hl1 : ∀ u ∈ ls, u.oneCell' = true) (hr1 : ∀ u ∈ rs, u.oneCell' = true) (hpt : ∀ u ∈ ls, ∃ p, u = Value.pointer p) (h4 : 4 < m + 1) (h8 : m + 1 ≤ 8) (r8 : nr ≤ 8)
    (hB1 : ∀ (W : World) (s : Sl), St (RowsN sl sr) w W → Rd W (Lt W.heap.size) 1 s m (ls.take (m * 1)) → Calls Try.prog 92 #[.slice s.a m s.c] W (BPostN P1 W))
    (hB2 : ∀ (W : World) (s : Sl), St (RowsN sl sr) w W → Rd W (Lt W.heap.size) 1 s (nr + 1) (ls.drop (m * 1) ++ rs) → Calls Try.prog 92 #[.slice s.a (nr + 1) s.c] W (BPostN P2 W))
    (hP1 : ∀ a W W', St (RowsN sl sr) w W → P1 a W → St (RowsN sl sr) W W' → P1 a W') :
    Calls Try.prog 187 #[.slice sl.a (m + 1) sl.c, .slice sr.a nr sr.c, .func (.func 92) #[] #[]] w fun e w' => ∃ a b, e = .returned (.tuple #[.pointer (some ⟨a, 0, none⟩), .pointer (some ⟨b, 0, none⟩)]) ∧ w.heap.size ≤ a ∧ w.heap.size ≤ b ∧ P1 a w' ∧ P2 b w' ∧ St (RowsN sl sr) w w' := by
  obtain ⟨i0, hi, hz0, hz1, hz2⟩ := info_parts Try.infoPNode
  obtain ⟨v0, hlast⟩ := lastN hL.1 (by omega) hpt
  rw [Nat.add_sub_cancel] at hlast
  obtain ⟨gl, capl, rfl, hgb, hncl, hcml, hfill⟩ := own_block hL (by omega)
  have hgl : gl < w.heap.size := hfill.lt
  have hrowl : ∀ b, sr.row = some b → b < w.heap.size := fun b hb => (own_row hR hb).2
  have hcl : ∀ W, St (fun b => sr.row = some b) w W → ∀ j u, ls[j]? = some u → W.cell? ⟨gl, j, none⟩ = some u := fun W hW j u hj => by
    obtain ⟨b, o, h1, h2, h3⟩ := Rd.of_own hL
    cases h1 with
    | some _ _ _ _ _ _ _ =>
      have := h3 j u hj
      rw [Nat.zero_add] at this
      exact (hW.cell hgl (hne gl rfl)).trans this
  have hlc : ∀ (c : Nat) (u : Value), ([.pointer v0] : List Value)[c]? = some u → ls[m * 1 + c]? = some u := fun c u hu => by rw [← hlast, List.getElem?_drop] at hu; exact hu
  have hS : ∀ W, St (fun b => sr.row = some b) w W → W.cell? ⟨gl, m, none⟩ = some (.pointer v0) := fun W hW => by have := hcl W hW _ _ (hlc 0 _ rfl); simpa using this
  have hgt : (4 : Int) < (m : Int) + 1 := by omega
  have hmc : (m : Int) ≤ (capl : Int) := by omega
  have hmn : (m : Int) < (m : Int) + 1 := by omega
  have hcm' : (capl : Int) ≤ 9223372036854775807 := by unfold maxLen at hcml; omega
  have hw1 : IntKind.i64.wrap ((m : Int) + 1) = (m : Int) + 1 := by rw [IntKind.wrap_i64]; omega
  have hb1 : ∀ W, St (fun b => sr.row = some b) w W → Calls Try.prog 92 #[.slice (some ⟨gl, 0, none⟩) m capl] W (BPostN P1 W) := fun W hW =>
    hB1 W ⟨some ⟨gl, 0, none⟩, capl⟩ (hW.mono fun i _ hi => .inr hi) (rd_takeN ((Rd.of_own (own_stN (s := ⟨some ⟨gl, 0, none⟩, capl⟩) hL hW (fun b hb => hne b hb))).mono fun i hi => hi.2) (by omega))
  have hins : ∀ W vb, Ext w W → Blk W vb 28 #[.pointer v0] → w.heap.size ≤ vb → Calls Try.prog 139 #[.slice sr.a nr sr.c, .int .i64 0, .slice (some ⟨vb, 0, none⟩) 1 1] W (InsPostN base sr nr 0 rs [.pointer v0] W) := fun W vb hW hv hvb =>
    insN_any (own_stN hR (hW.st (fun _ => False)) (fun _ _ h => h)) (Nat.le_trans hb hW.size) (by omega) (Nat.zero_le _) rfl hv (fun e => by have := hrowl vb e; omega) (fun u hu => hl1 u (List.mem_of_mem_drop (hlast ▸ hu))) hr1
  have HS := Lib.hid hS
  have HB1 := Lib.hid hb1
  have HB2 := Lib.hid hB2
  have HI := Lib.hid hins
  have HP1 := Lib.hid hP1
  have HL := Lib.hid hlast
  clear hS hb1 hB1 hB2 hins hP1 hlast hlc hcl hl1 hr1 hL hR hfill hne
  go_enter Try.func187, Try.ntmps187
  go_wp2_with fail
  have s0 := (St.refl (fun b => sr.row = some b) w).drew
  have k0 := HS.out _ s0
  have e0 := (Ext.refl w).drew
  have sA := ((((Ext.refl w).alloc #[.pointer v0] 28).drew).st (fun b => sr.row = some b))
  have HV0 := Lib.hid (show Blk (w.alloc (.cells #[.pointer v0] 28)).drew w.heap.size 28 #[.pointer v0] from Blk.new w 28 _)
  go_region_held3 (fun W => W.cell? ⟨gl, m, none⟩ = some (.pointer v0)) (first | (with_reducible exact HS.out _ s0) | (with_reducible exact HS.out _ (s0.alloc _ _)) | (with_reducible exact HS.out _ s1) | (with_reducible exact HS.out _ (s1.alloc _ _)) | (with_reducible exact HS.out _ s2) | (with_reducible exact HS.out _ s3q) | (with_reducible exact HS.out _ sA) | go_keep)
    (first
      | (go_at_call_of 92 (Value.slice (some ⟨gl, 0, none⟩) m capl); refine (HB1.out _ (by first | exact s0 | exact s0.alloc _ _)).mono ?_; rintro e w1 ⟨a1, rfl, ha1, hp1, hx1⟩; have s1 := (show St (fun b => sr.row = some b) w _ from by first | exact s0 | exact s0.alloc _ _).ext hx1; have e1 := (show Ext w _ from by first | exact e0 | exact e0.alloc _ _).trans hx1; have HPA := Lib.hid hp1; clear hp1)
      | (go_at_call 139; refine (HI.out _ _ (by first | (with_reducible exact e1) | exact e1.alloc _ _) (by first | exact (Blk.new _ _ _) | exact Blk.ext HV0.out hx1) (by first | exact e1.size | exact Nat.le_refl _)).mono ?_; rintro e w2 ⟨s3, rfl, ho2, hw2, hr2⟩; have s12 := (show St (RowsN ⟨some ⟨gl, 0, none⟩, capl⟩ sr) w1 w2 from by first | exact (hw2.st fun i hi => .inr hi) | exact (((Ext.refl w1).alloc _ _).st _).trans (hw2.st fun i hi => .inr hi)); have s2 := s1.trans (show St (fun b => sr.row = some b) w1 w2 from by first | exact (hw2.st fun i hi => hi) | exact (((Ext.refl w1).alloc _ _).st _).trans (hw2.st fun i hi => hi)); have HO2 := Lib.hid ho2; clear ho2 hw2 hr2)
      | (go_at_call 92; refine (HB2.out w2 s3 (s2.mono fun i _ hi => .inr hi) ?_).mono ?_; (have h := Rd.of_own HO2.out; simp only [Nat.zero_mul, List.take_zero, List.nil_append, List.drop_zero] at h; rw [← HL.out] at h; exact h.mono fun i hi => hi.2); rintro e w3 ⟨a2, rfl, ha2, hp2, hx3⟩; have s3q := s2.ext hx3; have HPB := Lib.hid hp2; clear hp2))
  all_goals
    go_wp2_with fail
    go_ret2
    have hs1 := s1.size
    have hs2 := s2.size
    refine ⟨a1, a2, rfl, ?_, Nat.le_trans hs2 ha2, HP1.out a1 w1 w3 (s1.mono fun i _ hi => .inr hi) HPA.out (s12.ext hx3), HPB.out, s3q.mono fun i _ hi => .inr hi⟩
    simp only [World.size_alloc, World.size_drew] at ha1
    omega
end

theorem firstN {rs : List Value} {n : Nat} (hl : rs.length = n * 1) (hn : 0 < n) (hp : ∀ u ∈ rs, ∃ p, u = Value.pointer p) : ∃ v0 : Option Addr, rs.take 1 = [.pointer v0] := by
  have h : (rs.take 1).length = 1 := by rw [List.length_take, hl]; omega
  match hd : rs.take 1, h with
  | [x], _ => obtain ⟨p, hq⟩ := hp x (List.mem_of_mem_take (by rw [hd]; exact List.mem_singleton.2 rfl)); exact ⟨p, by rw [hq]⟩

section
variable {w : World} {base nl m : Nat} {sl sr : Sl} {ls rs : List Value} {P1 P2 : Nat → World → Prop}
set_option maxRecDepth 100000 in
set_option maxHeartbeats 1000000 in
theorem pairN_right (hL : w.ownsRow base 28 1 (.slice sl.a nl sl.c) nl ls) (hR : w.ownsRow base 28 1 (.slice sr.a (m + 1) sr.c) (m + 1) rs) (hb : base ≤ w.heap.size) (hne : ∀ b, sl.row = some b → sr.row ≠ some b)
    (hl1 : ∀ u ∈ ls, u.oneCell' = true) (hr1 : ∀ u ∈ rs, u.oneCell' = true) (hpt : ∀ u ∈ rs, ∃ p, u = Value.pointer p) (h4 : nl ≤ 4) (h5 : 4 < m + 1) (h8 : m + 1 ≤ 8)
    (hB1 : ∀ (W : World) (s : Sl), St (RowsN sl sr) w W → Rd W (Lt W.heap.size) 1 s (nl + 1) (ls ++ rs.take 1) → Calls Try.prog 92 #[.slice s.a (nl + 1) s.c] W (BPostN P1 W))
    (hB2 : ∀ (W : World) (s : Sl), St (RowsN sl sr) w W → Rd W (Lt W.heap.size) 1 s m (rs.drop 1) → Calls Try.prog 92 #[.slice s.a m s.c] W (BPostN P2 W))
    (hP1 : ∀ a W W', St (RowsN sl sr) w W → P1 a W → St (RowsN sl sr) W W' → P1 a W') :
    Calls Try.prog 187 #[.slice sl.a nl sl.c, .slice sr.a (m + 1) sr.c, .func (.func 92) #[] #[]] w fun e w' => ∃ a b, e = .returned (.tuple #[.pointer (some ⟨a, 0, none⟩), .pointer (some ⟨b, 0, none⟩)]) ∧ w.heap.size ≤ a ∧ w.heap.size ≤ b ∧ P1 a w' ∧ P2 b w' ∧ St (RowsN sl sr) w w' := by
  obtain ⟨i0, hi, hz0, hz1, hz2⟩ := info_parts Try.infoPNode
  obtain ⟨v0, hfirst⟩ := firstN hR.1 (by omega) hpt
  obtain ⟨gr, capr, rfl, hgb, hncr, hcmr, hfilr⟩ := own_block hR (by omega)
  have hgr : gr < w.heap.size := hfilr.lt
  have hne' : ∀ b, sl.row = some b → b ≠ gr := fun b hb e => hne b hb (by simp [Sl.row, e])
  have hrd : Rd w (fun b => b = gr) 1 ⟨some ⟨gr, 0, none⟩, capr⟩ (m + 1) rs := by
    obtain ⟨b, o, h1, h2, h3⟩ := Rd.of_own hR
    cases h1 with
    | some _ _ _ _ hnc hcm hb => exact ⟨gr, 0, .some _ _ _ _ hnc hcm rfl, h2, h3⟩
  have hcr : ∀ W, St (fun b => sl.row = some b) w W → ∀ j u, rs[j]? = some u → W.cell? ⟨gr, j, none⟩ = some u := fun W hW j u hj => by
    obtain ⟨b, o, h1, h2, h3⟩ := Rd.of_own hR
    cases h1 with
    | some _ _ _ _ _ _ _ =>
      have := h3 j u hj
      rw [Nat.zero_add] at this
      exact (hW.cell hgr (fun e => hne' gr e rfl)).trans this
  have hfc : ∀ (c : Nat) (u : Value), ([.pointer v0] : List Value)[c]? = some u → rs[c]? = some u := fun c u hu => by
    rw [← hfirst, List.getElem?_take] at hu
    split at hu
    · exact hu
    · cases hu
  have hS : ∀ W, St (fun b => sl.row = some b) w W → W.cell? ⟨gr, 0, none⟩ = some (.pointer v0) := fun W hW => hcr W hW _ _ (hfc 0 _ rfl)
  have hn4 : ¬ (4 : Int) < (nl : Int) := by omega
  have hgt : (4 : Int) < (m : Int) + 1 := by omega
  have hm0 : (0 : Int) < (m : Int) + 1 := by omega
  have hm1 : (1 : Int) ≤ (m : Int) + 1 := by omega
  have hc1 : ¬ capr = 1 := by omega
  have hw1 : IntKind.i64.wrap ((m : Int) + 1) = (m : Int) + 1 := by rw [IntKind.wrap_i64]; omega
  have hcm' : (capr : Int) ≤ 9223372036854775807 := by unfold maxLen at hcmr; omega
  have hcn : (m : Int) + 1 ≤ (capr : Int) := by omega
  have h63 : nl + 1 ≤ maxLen := by unfold maxLen; omega
  have hby : (nl + 1) * 8 ≤ 140737488355328 := by omega
  have hown : ∀ W, Ext w W → W.ownsRow base 28 1 (.slice sl.a nl sl.c) nl ls := fun W hW => own_stN hL (hW.st (fun _ => False)) (fun _ _ h => h)
  have hb2 : ∀ W, St (fun b => sl.row = some b) w W → Calls Try.prog 92 #[.slice (some ⟨gr, 1, none⟩) m (capr - 1)] W (BPostN P2 W) := fun W hW => by
    refine hB2 W ⟨some ⟨gr, 1, none⟩, capr - 1⟩ (hW.mono fun i _ hi => .inl hi) ?_
    have h := ((hrd.agree (hW.agree.mono fun i (hi : i = gr) => ⟨by omega, fun e => hne' i e hi⟩)).drop (m := 1) (by omega)).mono (G := Lt W.heap.size) fun i (hi : i = gr) => by have := hW.size; show i < _; omega
    simpa using h
  have HS := Lib.hid hS
  have HB1 := Lib.hid hB1
  have HB2 := Lib.hid hb2
  have HP1 := Lib.hid hP1
  have HF := Lib.hid hfirst
  have HOWN := Lib.hid hown
  have HL1 := Lib.hid hl1
  have H1C : Hid (∀ u ∈ ([.pointer v0] : List Value), u.oneCell' = true) := Lib.hid fun u hu => hr1 u (List.mem_of_mem_take (hfirst ▸ hu))
  clear hS hb2 hB1 hB2 hP1 hfirst hcr hfc hl1 hr1 hL hR hfilr hne hne' hown hrd
  go_enter Try.func187, Try.ntmps187
  go_wp2_with fail
  have s0 := (St.refl (fun b => sl.row = some b) w).drew
  have e0 := (Ext.refl w).drew
  have sA := ((((Ext.refl w).alloc #[.pointer v0] 28).drew).st (fun b => sl.row = some b))
  have k0 := HS.out _ s0
  have HV0 := Lib.hid (show Blk (w.alloc (.cells #[.pointer v0] 28)).drew w.heap.size 28 #[.pointer v0] from Blk.new w 28 _)
  go_region_held3 (fun W => W.cell? ⟨gr, 0, none⟩ = some (.pointer v0)) (first | (with_reducible exact HS.out _ s0) | (with_reducible exact HS.out _ sA) | (with_reducible exact HS.out _ s1) | (with_reducible exact HS.out _ s2) | (with_reducible exact HS.out _ s3) | go_keep)
    (first
      | (refine step_append_x _ rfl (.tmp 35) (.tmp 39) 155 rfl base 28 i0 _ 1 8 Try.underlying155 hi hz0 hz1 hz2 rfl (by decide) sl nl ls (by rfl) (HOWN.out _ (((Ext.refl w).alloc _ _).drew)) (fun b => b = w.heap.size) ⟨some ⟨w.heap.size, 0, none⟩, 1⟩ 1 [.pointer v0] (by rfl) (Rd.block HV0.out (by decide) rfl) H1C.out h63 hby (by rw [World.size_drew, World.size_alloc]; omega) ?_; intro sx w1 hown1 hwr1 hsx; have s1 := sA.trans (hwr1.st fun i hi => hi); have HO1 := Lib.hid hown1; clear hown1 hsx)
      | (go_at_call 92; refine (HB2.out w2 s2).mono ?_; rintro e w3 ⟨a2, rfl, ha2, hp2, hx3⟩; have s3 := s2.ext hx3; have HPB := Lib.hid hp2; clear hp2)
      | (go_at_call 92; refine (HB1.out w1 sx (s1.mono fun i _ hi => .inl hi) ?_).mono ?_; (have h := Rd.of_own HO1.out; rw [← HF.out] at h; exact h.mono fun i hi => hi.2); rintro e w2 ⟨a1, rfl, ha1, hp1, hx2⟩; have s2 := s1.ext hx2; have HPA := Lib.hid hp1; clear hp1))
  all_goals
    go_wp2_with fail
    go_ret2
    have hs1 := s1.size
    have hs2 := s2.size
    exact ⟨a1, a2, rfl, Nat.le_trans hs1 ha1, Nat.le_trans hs2 ha2, HP1.out a1 w2 w3 (s2.mono fun i _ hi => .inl hi) HPA.out (hx3.st _), HPB.out, s3.mono fun i _ hi => .inl hi⟩
set_option maxRecDepth 100000 in
set_option maxHeartbeats 1000000 in
theorem pairN_both {nr : Nat} (hL : w.ownsRow base 28 1 (.slice sl.a nl sl.c) nl ls) (hR : w.ownsRow base 28 1 (.slice sr.a nr sr.c) nr rs) (hb : base ≤ w.heap.size)
    (hr1 : ∀ u ∈ rs, u.oneCell' = true) (h4 : nl ≤ 4) (r4 : nr ≤ 4)
    (hB1 : ∀ (W : World) (s : Sl), St (RowsN sl sr) w W → Rd W (Lt W.heap.size) 1 s (nl + nr) (ls ++ rs) → Calls Try.prog 92 #[.slice s.a (nl + nr) s.c] W (BPostN P1 W)) :
    Calls Try.prog 187 #[.slice sl.a nl sl.c, .slice sr.a nr sr.c, .func (.func 92) #[] #[]] w fun e w' => ∃ a, e = .returned (.tuple #[.pointer (some ⟨a, 0, none⟩), .pointer none]) ∧ w.heap.size ≤ a ∧ P1 a w' ∧ St (RowsN sl sr) w w' := by
  obtain ⟨i0, hi, hz0, hz1, hz2⟩ := info_parts Try.infoPNode
  have hn4 : ¬ (4 : Int) < (nl : Int) := by omega
  have hr4 : ¬ (4 : Int) < (nr : Int) := by omega
  have h63 : nl + nr ≤ maxLen := by unfold maxLen; omega
  have hby : (nl + nr) * 8 ≤ 140737488355328 := by omega
  have HB1 := Lib.hid hB1
  have HR := Lib.hid (Rd.of_own hR)
  have HL := Lib.hid hL
  have H1 := Lib.hid hr1
  clear hB1 hR hL hr1
  go_enter Try.func187, Try.ntmps187
  go_wp2_with (at_builtin; refine wpList_append_x _ rfl (.tmp 47) (.tmp 48) 155 rfl base 28 i0 _ 1 8 Try.underlying155 hi hz0 hz1 hz2 rfl (by decide) sl nl ls rfl HL.out (In base w.heap.size) sr nr rs rfl HR.out H1.out h63 hby hb ?_; intro sx w1 hown1 hwr1 hsx)
  have s1 : St (fun b => sl.row = some b) w w1 := hwr1.st fun i hi => hi
  refine (HB1.out w1 sx (s1.mono fun i _ hi => .inl hi) ((Rd.of_own hown1).mono fun i hi => hi.2)).mono ?_
  rintro e w2 ⟨a1, rfl, ha1, hp1, hx2⟩
  have HP := Lib.hid hp1
  clear hp1 hown1 hwr1 hsx
  go_wp2_with fail
  go_ret2
  exact ⟨a1, rfl, Nat.le_trans s1.size ha1, HP.out, (s1.ext hx2).mono fun i _ hi => .inl hi⟩
end
end Go.Proofs.Ytpapoalgocmlaaa
