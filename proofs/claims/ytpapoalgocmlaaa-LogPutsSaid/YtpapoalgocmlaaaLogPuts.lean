/- LogPuts: the walk. -/
import Derived.Test.YtpapoalgocmlaaaLogLaw
import Derived.Test.YtpapoalgocmlaaaLogP
namespace Go.Proofs.Ytpapoalgocmlaaa
open Go.RowKit
set_option linter.unusedVariables false
set_option linter.unusedSimpArgs false

/-- A region that asks the tape for its order, by what holds between any two of its operations. -/
theorem wpAny_inv {P : Program} {md : Region.Mode} {ops : Array Oper} {Q : Exit → Act → World → Prop} (Inv : Array Bool → Act → World → Prop)
    (hfin : ∀ listed a w, Inv listed a w → Region.ready md ops listed = [] → Q .normal a w)
    (hstep : ∀ (i : Nat) (o : Oper), ops[i]? = some o → ∀ listed a w, Inv listed a w → listed.getD i true = false → (∀ e ∈ o.after, Region.binds md e = true → listed.getD e.on false = true) →
      ∀ K : Act → World → Prop, Shut (∀ a w, Inv (listed.setIfInBounds i true) a w → K a w) → if Region.wanted o (yielded ops a.tmps) = true then Oper.wp P o a w K Q else K (a.put o.dst undef) w) :
    ∀ fuel listed a w, listed.toList.count false ≤ fuel → Inv listed a w → wpAny P md ops Q fuel listed a w := by
  intro fuel
  induction fuel with
  | zero =>
    intro listed a w hc hi
    have hr : Region.ready md ops listed = [] := by
      rw [List.eq_nil_iff_forall_not_mem]
      intro j hj
      obtain ⟨h1, -⟩ := mem_ready.1 hj
      have : false ∈ listed.toList := by
        rcases Nat.lt_or_ge j listed.size with h' | h'
        · simp [h'] at h1
          rw [← h1]; simp
        · simp [Array.getD_eq_getD_getElem?, Array.getElem?_eq_none h'] at h1
      have := List.count_pos_iff.2 this
      omega
    exact ⟨hr, hfin _ _ _ hi hr⟩
  | succ fuel ih =>
    intro listed a w hc hi
    refine ⟨fun hr => hfin _ _ _ hi hr, fun j hj => ?_⟩
    obtain ⟨h1, o, ho, h2⟩ := mem_ready.1 hj
    refine wpOp_step ho (fun K hK => hstep j o ho listed a w hi h1 h2 K (fun a' w' hi' => hK a' w' (ih _ _ _ ?_ hi')))
    rcases Nat.lt_or_ge j listed.size with h' | h'
    · simp [h'] at h1
      have e : (listed.setIfInBounds j true).toList = listed.toList.set j true := by simp
      rw [e, List.count_set (by simpa using h')]
      have h3 : listed.toList[j] = false := by simpa using h1
      have h4 : 0 < listed.toList.count false := List.count_pos_iff.2 (by rw [← h3]; simp)
      simp only [h3]
      rw [if_pos (by decide), if_neg (by decide)]
      omega
    · simp [Array.getD_eq_getD_getElem?, Array.getElem?_eq_none h'] at h1

/-- A cell that holds a pointer. -/
def PC (w : World) (b o : Nat) : Prop := (∃ q, w.cell? ⟨b, o, none⟩ = some (.pointer q)) ∧ b < w.heap.size
theorem PC.ext {w w' : World} {b o : Nat} (h : PC w b o) (he : Ext w w') : PC w' b o := by
  obtain ⟨⟨q, hq⟩, hl⟩ := h
  exact ⟨⟨q, (he.cell hl).trans hq⟩, Nat.lt_of_lt_of_le hl he.size⟩
theorem PC.set {w : World} {b o : Nat} (h : PC w b o) (p : Addr) (q : Option Addr) (hp : p.spot = none) : PC (w.setCell p (.pointer q)) b o := by
  obtain ⟨⟨q0, hq⟩, hl⟩ := h
  refine ⟨?_, by simpa using hl⟩
  by_cases e : (⟨b, o, none⟩ : Addr) = p
  · rw [← e]; exact ⟨q, World.cell?_setCell_same w _ _ hq⟩
  · exact ⟨q0, (World.cell?_setCell_other w p ⟨b, o, none⟩ _ (fun e' => e e'.symm)).trans hq⟩
def SlP (w : World) (o : Nat) (v : Value) : Prop := ∃ T, v = .slice (some ⟨T, 0, none⟩) 5 5 ∧ PC w T o
def PtP (w : World) (o : Nat) (v : Value) : Prop := ∃ T, v = .pointer (some ⟨T, o, none⟩) ∧ PC w T o
def AgP (v : Value) : Prop := ∃ q, v = .agg #[.pointer q]
def BxP (w1 w : World) (v : Value) : Prop := ∃ A, v = .pointer (some ⟨A, 0, none⟩) ∧ PC w A 0 ∧ w1.heap.size ≤ A
structure St (w1 w : World) (b0 b1 b2 b3 b4 b5 b6 b7 b8 b9 : Bool) (s7 s8 s24 s25 s26 s27 s28 s29 : Value) : Prop where
  ext : Ext w1 w
  h0 : b0 = true → SlP w 1 s24
  h1 : b1 = true → PtP w 1 s25
  h2 : b2 = true → AgP s26
  h3 : b3 = true → SlP w 2 s27
  h4 : b4 = true → PtP w 2 s28
  h5 : b5 = true → AgP s29
  h6 : b6 = true → BxP w1 w s7
  h7 : b7 = true → BxP w1 w s8
theorem St.keep {w1 w w' : World} {b0 b1 b2 b3 b4 b5 b6 b7 b8 b9 : Bool} {s7 s8 s24 s25 s26 s27 s28 s29 : Value} (h : St w1 w b0 b1 b2 b3 b4 b5 b6 b7 b8 b9 s7 s8 s24 s25 s26 s27 s28 s29) (he : Ext w1 w') (hk : ∀ b o, PC w b o → PC w' b o) : St w1 w' b0 b1 b2 b3 b4 b5 b6 b7 b8 b9 s7 s8 s24 s25 s26 s27 s28 s29 :=
  ⟨he, fun e => (h.h0 e).elim fun T h => ⟨T, h.1, hk _ _ h.2⟩, fun e => (h.h1 e).elim fun T h => ⟨T, h.1, hk _ _ h.2⟩, h.h2, fun e => (h.h3 e).elim fun T h => ⟨T, h.1, hk _ _ h.2⟩, fun e => (h.h4 e).elim fun T h => ⟨T, h.1, hk _ _ h.2⟩, h.h5,
    fun e => (h.h6 e).elim fun T h => ⟨T, h.1, hk _ _ h.2.1, h.2.2⟩, fun e => (h.h7 e).elim fun T h => ⟨T, h.1, hk _ _ h.2.1, h.2.2⟩⟩
theorem St.tag {w1 w : World} {b0 b1 b2 b3 b4 b5 b6 b7 b8 b9 : Bool} {s7 s8 s24 s25 s26 s27 s28 s29 : Value} (h : St w1 w b0 b1 b2 b3 b4 b5 b6 b7 b8 b9 s7 s8 s24 s25 s26 s27 s28 s29) (c8 c9 : Bool) : St w1 w b0 b1 b2 b3 b4 b5 b6 b7 c8 c9 s7 s8 s24 s25 s26 s27 s28 s29 := ⟨h.ext, h.h0, h.h1, h.h2, h.h3, h.h4, h.h5, h.h6, h.h7⟩
def InvP (x y : Int) (L : Nat) (w1 : World) (listed : Array Bool) (a : Act) (w : World) : Prop :=
  ∃ (b0 b1 b2 b3 b4 b5 b6 b7 b8 b9 : Bool) (s7 s8 s24 s25 s26 s27 s28 s29 : Value), listed = #[b0, b1, b2, b3, b4, b5, b6, b7, b8, b9] ∧ a = { tmps := #[Value.int .u64 x, Value.int .u64 y, undef, undef, .bool false, logV L, .int .i64 0, s7, s8, undef, undef, undef, undef, undef, .tuple #[logV L, .int .i64 0], .tuple #[logV L, .int .i64 0], logV L, .int .i64 0, logV L, .bool false, .bool false, .int .i64 0, .bool false, .bool false, s24, s25, s26, s27, s28, s29, undef, undef, undef, undef, undef, undef, undef, undef, undef, undef, undef, undef, undef, undef, undef, undef, undef, undef, undef, undef, undef, undef, undef, undef, undef, undef, undef, undef, undef, undef, undef, undef, undef, undef, undef, undef, undef, undef, undef, undef, undef, undef, undef, undef, undef, undef, undef, undef, undef, undef, undef, undef, undef, undef, undef, undef, undef, undef, undef, undef, undef, undef, undef, undef, undef, undef, undef, undef, undef, undef, undef, undef, undef, undef, undef], defers := [] } ∧ St w1 w b0 b1 b2 b3 b4 b5 b6 b7 b8 b9 s7 s8 s24 s25 s26 s27 s28 s29

theorem trees_pc (W : World) : Calls Try.prog 28 #[] W fun e w' => ∃ T, e = .returned (.slice (some ⟨T, 0, none⟩) 5 5) ∧ PC w' T 1 ∧ PC w' T 2 ∧ Ext W w' :=
  (trees_any W).mono fun e w' h => by
    obtain ⟨T, a, b, c, d, rfl, hT, -, -, -, -, hx⟩ := h
    exact ⟨T, rfl, ⟨⟨_, hT.cell 1⟩, hT.lt⟩, ⟨⟨_, hT.cell 2⟩, hT.lt⟩, hx⟩

set_option maxRecDepth 100000 in
set_option maxHeartbeats 2000000 in
theorem logPuts_any (x y : Nat) (hx : x < 18446744073709551616) (hy : y < 18446744073709551616) (w : World) : Calls Try.prog 3 #[.int .u64 x, .int .u64 y] w fun e w' => e = .returned (.bool true) ∧ Ext w w' := by
  go_enter Try.func3, Try.ntmps3
  go_wp2_with fail
  refine (new_any w 3).mono ?_
  rintro e w1 (⟨hn, -⟩ | ⟨-, L, R, ring, rfl, hl, hL, hR, hx1⟩)
  · exact absurd ⟨by decide, by decide⟩ hn
  have HL1 := Lib.hid (show IsL w1 L R 3 0 0 ring from hl)
  have HX1 := Lib.hid hx1
  clear hl hx1
  go_wp2_with fail
  refine wp_region_any (by kernel_rfl) ?_
  refine wpAny_inv (InvP x y L w1) ?fin ?step _ _ _ _ (by decide) ⟨false, false, false, false, false, false, false, false, false, false, undef, undef, undef, undef, undef, undef, undef, undef, rfl, rfl, ⟨(Ext.refl w1).drew, (fun h => nomatch h), (fun h => nomatch h), (fun h => nomatch h), (fun h => nomatch h), (fun h => nomatch h), (fun h => nomatch h), (fun h => nomatch h), (fun h => nomatch h)⟩⟩
  case fin =>
    rintro listed a w2 ⟨b0, b1, b2, b3, b4, b5, b6, b7, b8, b9, s7, s8, s24, s25, s26, s27, s28, s29, rfl, rfl, hst⟩ hr
    have hn := List.eq_nil_iff_forall_not_mem.1 hr
    have h6 : b6 = true := by
      cases hb : b6 with
      | true => rfl
      | false =>
        subst hb
        have h := hn 6
        rw [mem_ready] at h
        exact (h ⟨rfl, _, rfl, by simp⟩).elim
    have h7 : b7 = true := by
      cases hb : b7 with
      | true => rfl
      | false =>
        subst hb
        have h := hn 7
        rw [mem_ready] at h
        exact (h ⟨rfl, _, rfl, by simp⟩).elim
    clear hn
    obtain ⟨A, rfl, ⟨⟨qa, ca⟩, la⟩, hA⟩ := hst.h6 h6
    obtain ⟨B, rfl, ⟨⟨qb, cb⟩, lb⟩, hB⟩ := hst.h7 h7
    have HX2 := Lib.hid (HX1.out.trans hst.ext)
    have HL2 := Lib.hid (HL1.out.ext hst.ext)
    have hLl := HL1.out.blk.lt
    have hRl := HL1.out.row.lt
    clear hst hr h6 h7
    have hBL : B ≠ L := by omega
    have hBR : B ≠ R := by omega
    go_wp2_with fail
    by_cases hxM : 4611686018427387903 < x
    · have hxM' : (4611686018427387903 : Int) < (x : Int) := by omega
      have hxd : decide ((4611686018427387903 : Int) < (x : Int)) = true := decide_eq_true hxM'
      have c1 : Calls Try.prog 29 #[logV L, .int .u64 x, .agg #[.pointer qa]] w2 fun e w' => e = .returned (.int .i64 7) ∧ Ext w2 w' := by
        have e : putCode 0 0 x = 7 := by unfold putCode; rw [if_pos hxM]
        have := put_bad HL2.out x hx (.pointer qa) (by rw [e]; decide)
        rwa [e] at this
      refine c1.mono ?_
      rintro e w3 ⟨rfl, hx3⟩
      have HX3 := Lib.hid (HX2.out.trans hx3)
      have HL3 := Lib.hid (HL2.out.ext hx3)
      clear c1 hx3
      go_wp2_with fail
      have c2 : Calls Try.prog 30 #[logV L] w3 fun e w' => e = .returned (.int .i64 0) ∧ w3 = w' := len_any HL3.out
      refine c2.mono ?_
      rintro e w4 ⟨rfl, rfl⟩
      clear c2
      go_wp2_with fail
      refine (known19 w3).mono ?_
      rintro e w5 ⟨rfl, hx5⟩
      have HX5 := Lib.hid (HX3.out.trans hx5)
      clear hx5
      go_wp2_with fail
      go_ret
      exact ⟨rfl, HX5.out⟩
    · have hxM' : ¬ (4611686018427387903 : Int) < (x : Int) := by omega
      have hxd : decide ((4611686018427387903 : Int) < (x : Int)) = false := decide_eq_false hxM'
      have c1 : Calls Try.prog 29 #[logV L, .int .u64 x, .agg #[.pointer qa]] w2 (PutL2 L R 3 0 0 x w2) :=
        put_ok2 HL2.out x hx qa (by unfold putCode; rw [if_neg hxM]; rfl)
      refine c1.mono ?_
      rintro e w3 ⟨rfl, ⟨ring3, hl3⟩, ha3, hs3, he3⟩
      have HL3 := Lib.hid (show IsL w3 L R 3 x 1 ring3 from hl3)
      have HX3 := Lib.hid (he3 w HX2.out hL hR)
      have cb3 : w3.cell? ⟨B, 0, none⟩ = some (.pointer qb) := (ha3.cell (o := 0) ⟨lb, hBL, hBR⟩).trans cb
      clear c1 hl3 ha3 he3 ca cb
      go_wp2_with fail
      by_cases hyM : 4611686018427387903 < y
      · have q2 : decide ((4611686018427387903 : Int) < (y : Int)) = true := decide_eq_true (by omega)
        have q2' : (4611686018427387903 : Int) < (y : Int) := by omega
        have c2 : Calls Try.prog 29 #[logV L, .int .u64 y, .agg #[.pointer qb]] w3 fun e w' => e = .returned (.int .i64 7) ∧ Ext w3 w' := by
          have e : putCode x 1 y = 7 := by unfold putCode; rw [if_pos hyM]
          have := put_bad HL3.out y hy (.pointer qb) (by rw [e]; decide)
          rwa [e] at this
        refine c2.mono ?_
        rintro e w4 ⟨rfl, hx4⟩
        have HX4 := Lib.hid (HX3.out.trans hx4)
        have HL4 := Lib.hid (HL3.out.ext hx4)
        clear c2 hx4
        go_wp2_with fail
        have c3 : Calls Try.prog 32 #[logV L] w4 fun e w' => e = .returned (.tuple #[.int .u64 x, .bool true]) ∧ w4 = w' := newest_any HL4.out
        refine c3.mono ?_
        rintro e w5 ⟨rfl, rfl⟩
        clear c3
        go_wp2_with fail
        have c4 : Calls Try.prog 30 #[logV L] w4 fun e w' => e = .returned (.int .i64 1) ∧ w4 = w' := len_any HL4.out
        refine c4.mono ?_
        rintro e w5 ⟨rfl, rfl⟩
        clear c4
        go_wp2_with fail
        refine (known19 w4).mono ?_
        rintro e w5 ⟨rfl, hx5⟩
        have HX5 := Lib.hid (HX4.out.trans hx5)
        clear hx5
        go_wp2_with fail
        go_ret
        exact ⟨rfl, HX5.out⟩
      by_cases hyx : y ≤ x
      · have q2 : decide ((4611686018427387903 : Int) < (y : Int)) = false := decide_eq_false (by omega)
        have q2' : ¬ (4611686018427387903 : Int) < (y : Int) := by omega
        have q3 : decide ((y : Int) ≤ (x : Int)) = true := decide_eq_true (by omega)
        have q3' : (y : Int) ≤ (x : Int) := by omega
        have c2 : Calls Try.prog 29 #[logV L, .int .u64 y, .agg #[.pointer qb]] w3 fun e w' => e = .returned (.int .i64 15) ∧ Ext w3 w' := by
          have e : putCode x 1 y = 15 := by unfold putCode; rw [if_neg hyM, if_pos ⟨by decide, hyx⟩]
          have := put_bad HL3.out y hy (.pointer qb) (by rw [e]; decide)
          rwa [e] at this
        refine c2.mono ?_
        rintro e w4 ⟨rfl, hx4⟩
        have HX4 := Lib.hid (HX3.out.trans hx4)
        have HL4 := Lib.hid (HL3.out.ext hx4)
        clear c2 hx4
        go_wp2_with fail
        have c3 : Calls Try.prog 32 #[logV L] w4 fun e w' => e = .returned (.tuple #[.int .u64 x, .bool true]) ∧ w4 = w' := newest_any HL4.out
        refine c3.mono ?_
        rintro e w5 ⟨rfl, rfl⟩
        clear c3
        go_wp2_with fail
        have c4 : Calls Try.prog 30 #[logV L] w4 fun e w' => e = .returned (.int .i64 1) ∧ w4 = w' := len_any HL4.out
        refine c4.mono ?_
        rintro e w5 ⟨rfl, rfl⟩
        clear c4
        go_wp2_with fail
        refine (known19 w4).mono ?_
        rintro e w5 ⟨rfl, hx5⟩
        have HX5 := Lib.hid (HX4.out.trans hx5)
        clear hx5
        go_wp2_with fail
        go_ret
        exact ⟨rfl, HX5.out⟩
      by_cases hyg : x + 1 < y
      · have q2 : decide ((4611686018427387903 : Int) < (y : Int)) = false := decide_eq_false (by omega)
        have q2' : ¬ (4611686018427387903 : Int) < (y : Int) := by omega
        have q3 : decide ((y : Int) ≤ (x : Int)) = false := decide_eq_false (by omega)
        have q3' : ¬ (y : Int) ≤ (x : Int) := by omega
        have q4 : IntKind.u64.wrap ((y : Int) - (x : Int)) = (y : Int) - (x : Int) := by rw [IntKind.wrap_u64]; omega
        have q5 : decide (1 < (y : Int) - (x : Int)) = true := decide_eq_true (by omega)
        have q5' : 1 < (y : Int) - (x : Int) := by omega
        have c2 : Calls Try.prog 29 #[logV L, .int .u64 y, .agg #[.pointer qb]] w3 fun e w' => e = .returned (.int .i64 14) ∧ Ext w3 w' := by
          have e : putCode x 1 y = 14 := by unfold putCode; rw [if_neg hyM, if_neg (by omega), if_pos ⟨by decide, hyg⟩]
          have := put_bad HL3.out y hy (.pointer qb) (by rw [e]; decide)
          rwa [e] at this
        refine c2.mono ?_
        rintro e w4 ⟨rfl, hx4⟩
        have HX4 := Lib.hid (HX3.out.trans hx4)
        have HL4 := Lib.hid (HL3.out.ext hx4)
        clear c2 hx4
        go_wp2_with fail
        have c3 : Calls Try.prog 32 #[logV L] w4 fun e w' => e = .returned (.tuple #[.int .u64 x, .bool true]) ∧ w4 = w' := newest_any HL4.out
        refine c3.mono ?_
        rintro e w5 ⟨rfl, rfl⟩
        clear c3
        go_wp2_with fail
        have c4 : Calls Try.prog 30 #[logV L] w4 fun e w' => e = .returned (.int .i64 1) ∧ w4 = w' := len_any HL4.out
        refine c4.mono ?_
        rintro e w5 ⟨rfl, rfl⟩
        clear c4
        go_wp2_with fail
        refine (known19 w4).mono ?_
        rintro e w5 ⟨rfl, hx5⟩
        have HX5 := Lib.hid (HX4.out.trans hx5)
        clear hx5
        go_wp2_with fail
        go_ret
        exact ⟨rfl, HX5.out⟩
      · have q2 : decide ((4611686018427387903 : Int) < (y : Int)) = false := decide_eq_false (by omega)
        have q2' : ¬ (4611686018427387903 : Int) < (y : Int) := by omega
        have q3 : decide ((y : Int) ≤ (x : Int)) = false := decide_eq_false (by omega)
        have q3' : ¬ (y : Int) ≤ (x : Int) := by omega
        have q4 : IntKind.u64.wrap ((y : Int) - (x : Int)) = (y : Int) - (x : Int) := by rw [IntKind.wrap_u64]; omega
        have q5 : decide (1 < (y : Int) - (x : Int)) = false := decide_eq_false (by omega)
        have q5' : ¬ 1 < (y : Int) - (x : Int) := by omega
        have c2 : Calls Try.prog 29 #[logV L, .int .u64 y, .agg #[.pointer qb]] w3 (PutL2 L R 3 x 1 y w3) := put_ok2 HL3.out y hy qb (by unfold putCode; rw [if_neg hyM, if_neg (by omega), if_neg (by omega)])
        refine c2.mono ?_
        rintro e w4 ⟨rfl, ⟨ring4, hl4⟩, ha4, hs4, he4⟩
        have HL4 := Lib.hid (show IsL w4 L R 3 y 2 ring4 from hl4)
        have HX4 := Lib.hid (he4 w HX3.out hL hR)
        clear c2 hl4 ha4 he4
        go_wp2_with fail
        have c3 : Calls Try.prog 32 #[logV L] w4 fun e w' => e = .returned (.tuple #[.int .u64 y, .bool true]) ∧ w4 = w' := newest_any HL4.out
        refine c3.mono ?_
        rintro e w5 ⟨rfl, rfl⟩
        clear c3
        go_wp2_with fail
        have c4 : Calls Try.prog 30 #[logV L] w4 fun e w' => e = .returned (.int .i64 2) ∧ w4 = w' := len_any HL4.out
        refine c4.mono ?_
        rintro e w5 ⟨rfl, rfl⟩
        clear c4
        go_wp2_with fail
        refine (known19 w4).mono ?_
        rintro e w5 ⟨rfl, hx5⟩
        have HX5 := Lib.hid (HX4.out.trans hx5)
        clear hx5
        go_wp2_with fail
        go_ret
        exact ⟨rfl, HX5.out⟩
  case step =>
    clear HL1 HX1 hL hR ring
    rintro (_|_|_|_|_|_|_|_|_|_|i) o ho listed a w2 ⟨b0, b1, b2, b3, b4, b5, b6, b7, b8, b9, s7, s8, s24, s25, s26, s27, s28, s29, rfl, rfl, hst⟩ hb hd K hK
    · cases ho
      simp [Region.binds] at hb hd
      simp only [List.getElem_toArray, List.getElem_cons_zero, List.getElem_cons_succ]
      rw [if_pos (by rfl)]
      go_simp
      refine (trees_pc w2).mono ?_
      rintro e w3 ⟨T, rfl, p1, p2, hx3⟩
      exact hK.out _ _ ⟨true, b1, b2, b3, b4, b5, b6, b7, b8, b9, _, _, _, _, _, _, _, _, rfl, rfl, { hst.keep (hst.ext.trans hx3) (fun b o h => h.ext hx3) with h0 := fun _ => ⟨T, rfl, p1⟩ }⟩
    · cases ho
      simp [Region.binds] at hb hd
      simp only [List.getElem_toArray, List.getElem_cons_zero, List.getElem_cons_succ]
      obtain ⟨T, rfl, hp⟩ := hst.h0 hd
      rw [if_pos (by rfl)]
      go_simp
      exact hK.out _ _ ⟨b0, true, b2, b3, b4, b5, b6, b7, b8, b9, _, _, _, _, _, _, _, _, rfl, rfl, { hst with h1 := fun _ => ⟨T, rfl, hp⟩ }⟩
    · cases ho
      simp [Region.binds] at hb hd
      simp only [List.getElem_toArray, List.getElem_cons_zero, List.getElem_cons_succ]
      obtain ⟨T, rfl, ⟨q, hq⟩, hl⟩ := hst.h1 hd
      rw [if_pos (by rfl)]
      go_simp
      exact hK.out _ _ ⟨b0, b1, true, b3, b4, b5, b6, b7, b8, b9, _, _, _, _, _, _, _, _, rfl, rfl, { hst with h2 := fun _ => ⟨q, rfl⟩ }⟩
    · cases ho
      simp [Region.binds] at hb hd
      simp only [List.getElem_toArray, List.getElem_cons_zero, List.getElem_cons_succ]
      rw [if_pos (by rfl)]
      go_simp
      refine (trees_pc w2).mono ?_
      rintro e w3 ⟨T, rfl, p1, p2, hx3⟩
      exact hK.out _ _ ⟨b0, b1, b2, true, b4, b5, b6, b7, b8, b9, _, _, _, _, _, _, _, _, rfl, rfl, { hst.keep (hst.ext.trans hx3) (fun b o h => h.ext hx3) with h3 := fun _ => ⟨T, rfl, p2⟩ }⟩
    · cases ho
      simp [Region.binds] at hb hd
      simp only [List.getElem_toArray, List.getElem_cons_zero, List.getElem_cons_succ]
      obtain ⟨T, rfl, hp⟩ := hst.h3 hd
      rw [if_pos (by rfl)]
      go_simp
      exact hK.out _ _ ⟨b0, b1, b2, b3, true, b5, b6, b7, b8, b9, _, _, _, _, _, _, _, _, rfl, rfl, { hst with h4 := fun _ => ⟨T, rfl, hp⟩ }⟩
    · cases ho
      simp [Region.binds] at hb hd
      simp only [List.getElem_toArray, List.getElem_cons_zero, List.getElem_cons_succ]
      obtain ⟨T, rfl, ⟨q, hq⟩, hl⟩ := hst.h4 hd
      rw [if_pos (by rfl)]
      go_simp
      exact hK.out _ _ ⟨b0, b1, b2, b3, b4, true, b6, b7, b8, b9, _, _, _, _, _, _, _, _, rfl, rfl, { hst with h5 := fun _ => ⟨q, rfl⟩ }⟩
    · cases ho
      simp [Region.binds] at hb hd
      simp only [List.getElem_toArray, List.getElem_cons_zero, List.getElem_cons_succ]
      rw [if_pos (by rfl)]
      go_simp
      have hx3 : Ext w2 (w2.alloc (.cells #[.pointer none] 30)) := (Ext.refl w2).alloc _ _
      have hb3 := Blk.new w2 30 #[.pointer none]
      exact hK.out _ _ ⟨b0, b1, b2, b3, b4, b5, true, b7, b8, b9, _, _, _, _, _, _, _, _, rfl, rfl, { hst.keep (hst.ext.trans hx3) (fun b o h => h.ext hx3) with h6 := fun _ => ⟨_, rfl, ⟨⟨_, hb3.cell 0⟩, hb3.lt⟩, hst.ext.size⟩ }⟩
    · cases ho
      simp [Region.binds] at hb hd
      simp only [List.getElem_toArray, List.getElem_cons_zero, List.getElem_cons_succ]
      rw [if_pos (by rfl)]
      go_simp
      have hx3 : Ext w2 (w2.alloc (.cells #[.pointer none] 30)) := (Ext.refl w2).alloc _ _
      have hb3 := Blk.new w2 30 #[.pointer none]
      exact hK.out _ _ ⟨b0, b1, b2, b3, b4, b5, b6, true, b8, b9, _, _, _, _, _, _, _, _, rfl, rfl, { hst.keep (hst.ext.trans hx3) (fun b o h => h.ext hx3) with h7 := fun _ => ⟨_, rfl, ⟨⟨_, hb3.cell 0⟩, hb3.lt⟩, hst.ext.size⟩ }⟩
    · cases ho
      simp [Region.binds] at hb hd
      simp only [List.getElem_toArray, List.getElem_cons_zero, List.getElem_cons_succ]
      obtain ⟨A, rfl, ⟨⟨q, hq⟩, hl⟩, hA⟩ := hst.h6 (by simp_all)
      obtain ⟨q', rfl⟩ := hst.h2 (by simp_all)
      have hf := hst.ext.free A 0 hA
      rw [if_pos (by rfl)]
      go_simp
      exact hK.out _ _ ⟨b0, b1, b2, b3, b4, b5, b6, b7, true, b9, _, _, _, _, _, _, _, _, rfl, rfl, (hst.keep (hst.ext.set2 hA _ _) (fun b o h => h.set _ _ rfl)).tag _ _⟩
    · cases ho
      simp [Region.binds] at hb hd
      simp only [List.getElem_toArray, List.getElem_cons_zero, List.getElem_cons_succ]
      obtain ⟨A, rfl, ⟨⟨q, hq⟩, hl⟩, hA⟩ := hst.h7 (by simp_all)
      obtain ⟨q', rfl⟩ := hst.h5 (by simp_all)
      have hf := hst.ext.free A 0 hA
      rw [if_pos (by rfl)]
      go_simp
      exact hK.out _ _ ⟨b0, b1, b2, b3, b4, b5, b6, b7, b8, true, _, _, _, _, _, _, _, _, rfl, rfl, (hst.keep (hst.ext.set2 hA _ _) (fun b o h => h.set _ _ rfl)).tag _ _⟩
    · cases ho
theorem logputs_w (a0 a1 : Int) (w0 : (Lit.int .u64 a0).wf = true) (w1 : (Lit.int .u64 a1).wf = true) (w : World) :
    Calls Try.prog 3 #[.int .u64 a0, .int .u64 a1] w fun e w' => e = .returned (.bool true) ∧ Ext w w' := by
  have h0 := u64_nonneg w0
  have h1 := u64_nonneg w1
  obtain ⟨x, rfl⟩ := Int.eq_ofNat_of_zero_le h0.1
  obtain ⟨y, rfl⟩ := Int.eq_ofNat_of_zero_le h1.1
  exact logPuts_any x y (by omega) (by omega) w
end Go.Proofs.Ytpapoalgocmlaaa
