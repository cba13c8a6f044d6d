/- TreeSame, the walk. -/
import Derived.Test.YtpapoalgocmlaaaTSame
namespace Go.Proofs.Ytpapoalgocmlaaa
open Go.RowKit
set_option linter.unusedVariables false
set_option linter.unusedSimpArgs false
theorem putAll_self : ∀ {l A : List Ent}, Sorted (A ++ l) → putAll A l = A ++ l
  | [], A, _ => by simp [putAll]
  | e :: l, A, h => by
    have h1 : ∀ x ∈ A, klt x.1 e.1 = true := fun x hx => (List.pairwise_append.1 h).2.2 x hx e List.mem_cons_self
    show putAll (insE A e.1 e.2) l = _
    rw [insE_last h1, putAll_self (by simpa using h)]
    simp
theorem eql_ptr_any (w : World) (p q : Option Addr) (hp : Leads w p) (hq : Leads w q) : (binOp .eql 28 (.pointer p) (.pointer q)).run Try.prog w = .ok (.bool (decide (p = q))) w := by
  obtain ⟨j, hj, hz⟩ := is_info
  cases p with
  | none =>
    cases q with
    | none =>
      have h : ∀ d : Nat, (Op.equalIn (d + 1) 28 (.pointer none) (.pointer none)).run Try.prog w = .ok true w := fun d => by
        simp [Op.equalIn, run_underlying Try.underlying28]
      simp only [binOp]
      simp [Op.equal, Op.maxDepth, h 9999]
    | some b => rw [eql_nil_some w b Try.underlying28]; simp
  | some a =>
    cases q with
    | none =>
      have h : ∀ d : Nat, (Op.equalIn (d + 1) 28 (.pointer (some a)) (.pointer none)).run Try.prog w = .ok false w := fun d => by
        simp [Op.equalIn, run_underlying Try.underlying28]
      simp only [binOp]
      simp [Op.equal, Op.maxDepth, h 9999]
    | some b =>
      by_cases hab : a = b
      · subst hab
        rw [run_eql_ptr_same (P := Try.prog) w a Try.underlying28 hj]; simp
      · obtain ⟨ca, ta, ha⟩ := hp a rfl
        obtain ⟨cb, tb, hb⟩ := hq b rfl
        rw [run_eql_ptr_other (P := Try.prog) _ Try.underlying28 hj hz hab ha hb]; simp [hab]
/-- What holds between two rounds: two trees, two maps, the boxes of the trees. -/
structure SameI (b0 : Nat) (T U : RT) (W : World) : Prop where
  p : PlayI (fun b => b0 ≤ b ∧ b < b0 + 4) (b0 + 2) T W
  q : PlayI (fun b => b0 ≤ b ∧ b < b0 + 4) (b0 + 3) U W
  bt : Blk W b0 30 #[rootV T]
  bu : Blk W (b0 + 1) 30 #[rootV U]
  sz : b0 + 4 ≤ W.heap.size
theorem SameI.ext {b0 : Nat} {T U : RT} {w w' : World} (h : SameI b0 T U w) (k : Ext w w') : SameI b0 T U w' := ⟨h.p.ext k, h.q.ext k, h.bt.ext k, h.bu.ext k, Nat.le_trans h.sz k.size⟩
theorem SameI.left {b0 N : Nat} {T U T' : RT} {wr w2 : World} {p' : Option Addr} (h : SameI b0 T U wr) (hI : PlayI (Wd (fun b => b0 ≤ b ∧ b < b0 + 4) wr.heap.size N) (b0 + 2) T' w2) (hst : St (fun b => b = b0 + 2 ∨ b = b0) wr w2) (hb : Blk w2 b0 30 #[rootV T]) (hp' : rootV T' = .pointer p') :
    SameI b0 T' U (w2.setCell ⟨b0, 0, none⟩ (.pointer p')) := by
  have hset : St (fun b => b = b0) w2 (w2.setCell ⟨b0, 0, none⟩ (.pointer p')) := (St.refl (fun b => b = b0) w2).set (p := ⟨b0, 0, none⟩) (.inr rfl) _
  have h0 : ∀ b, b = b0 → b0 ≤ b ∧ b < b0 + 4 := fun b hb => by omega
  refine ⟨(hI.less (fun b hb => .inl hb) ⟨by omega, by omega⟩).st hset h0 (by omega), (h.q.st hst (fun b hb => by omega) (by omega)).st hset h0 (by omega), by rw [hp']; exact hb.set_ 0 _, hset.blk (hst.blk h.bu (by omega)) (by omega), ?_⟩
  rw [World.size_setCell]
  exact Nat.le_trans h.sz hst.size
theorem SameI.right {b0 N : Nat} {T U U' : RT} {wr w2 : World} {p' : Option Addr} (h : SameI b0 T U wr) (hI : PlayI (Wd (fun b => b0 ≤ b ∧ b < b0 + 4) wr.heap.size N) (b0 + 3) U' w2) (hst : St (fun b => b = b0 + 3 ∨ b = b0 + 1) wr w2) (hb : Blk w2 (b0 + 1) 30 #[rootV U]) (hp' : rootV U' = .pointer p') :
    SameI b0 T U' (w2.setCell ⟨b0 + 1, 0, none⟩ (.pointer p')) := by
  have hset : St (fun b => b = b0 + 1) w2 (w2.setCell ⟨b0 + 1, 0, none⟩ (.pointer p')) := (St.refl (fun b => b = b0 + 1) w2).set (p := ⟨b0 + 1, 0, none⟩) (.inr rfl) _
  have h0 : ∀ b, b = b0 + 1 → b0 ≤ b ∧ b < b0 + 4 := fun b hb => by omega
  refine ⟨(h.p.st hst (fun b hb => by omega) (by omega)).st hset h0 (by omega), (hI.less (fun b hb => .inl hb) ⟨by omega, by omega⟩).st hset h0 (by omega), hset.blk (hst.blk h.bt (by omega)) (by omega), by rw [hp']; exact hb.set_ 0 _, ?_⟩
  rw [World.size_setCell]
  exact Nat.le_trans h.sz hst.size
set_option maxRecDepth 100000 in
set_option maxHeartbeats 8000000 in
theorem treesame_w (s0 : Sl) (xa : List LA) (s1 : Sl) (bs : List LA) (w : World) (ha : AS w (Lt w.heap.size) s0 xa) (hb : AS w (Lt w.heap.size) s1 bs) : Calls Try.prog 21 #[.slice s0.a xa.length s0.c, .slice s1.a bs.length s1.c] w fun e w' => e = .returned (.bool true) ∧ Ext w w' := by
  have hfew := ha.few
  have hfew1 := hb.few
  by_cases hbig : 100 < xa.length ∨ 100 < bs.length
  · have hcase : (100 : Int) < (xa.length : Int) ∨ (¬ (100 : Int) < (xa.length : Int) ∧ (100 : Int) < (bs.length : Int)) := by omega
    clear ha hb hbig
    rcases hcase with g | ⟨g, g'⟩
    all_goals
      go_enter Try.func21, Try.ntmps21
      go_wp2_with fail
      refine (known07 w).mono ?_
      rintro e w9 ⟨rfl, hx9⟩
      go_wp2_with fail
      go_ret
      exact ⟨rfl, hx9⟩
  · have g100 : ¬ (100 : Int) < (xa.length : Int) := by omega
    have g100' : ¬ (100 : Int) < (bs.length : Int) := by omega
    have HA := Lib.hid ha
    have HB := Lib.hid hb
    clear ha hb hfew hfew1 hbig
    go_enter Try.func21, Try.ntmps21
    go_wp2_with fail
    generalize hW0 : World.alloc (World.alloc (World.alloc (World.alloc _ _) _) _) _ = W0
    obtain ⟨hx0, hz0, hb0, hb1, hb2, hb3⟩ := four_blocks w _ _ _ _ _ _ _ _ W0 hW0
    clear hW0
    have HI0 := Lib.hid (show SameI w.heap.size none none W0 from ⟨PlayI.nil ⟨by omega, by omega⟩ hb2, PlayI.nil ⟨by omega, by omega⟩ hb3, hb0, hb1, by omega⟩)
    have HX0 := Lib.hid hx0
    clear hx0 hb0 hb1 hb2 hb3
    go_loopw [9] (fun i wr => ∃ (j : Nat) (T : RT), j ≤ xa.length ∧ i = .int .i64 j ∧ (entsT T).length ≤ j ∧ SameI w.heap.size T none wr ∧ Ext w wr) (fun i _ => xa.length - (intOf i).toNat)
    case atStart => exact ⟨0, none, Nat.zero_le _, rfl, Nat.zero_le _, HI0.out, HX0.out⟩
    case round =>
      obtain ⟨j, T, hj, rfl, hlT, hI, hX⟩ := hrel
      have HI := Lib.hid hI
      have HX := Lib.hid hX
      have hsz := hI.sz
      by_cases hlt : j < xa.length
      · have g1 : (j : Int) < (xa.length : Int) := by omega
        obtain ⟨a, haa⟩ : ∃ a, xa[j]? = some a := ⟨_, List.getElem?_eq_getElem hlt⟩
        obtain ⟨p, hp⟩ := rootV_ptr T
        obtain ⟨b, o, hsa, lb, hcc, hcm, ⟨a0, a1, av⟩, hrv, hkm, hwf⟩ := (HA.out.agree (hX.agree fun _ h => h)).at haa
        obtain ⟨v0, v1, v2, v3, v4, v5⟩ := av
        obtain ⟨sa, sc⟩ := s0
        dsimp only at hsa hcc hcm
        subst hsa
        have lb : b < w.heap.size := lb
        have hdo := doI (a := a) hI.p (fun b hb => by omega) (by omega) hkm (hrv.mono fun i (hi : i < w.heap.size) => ⟨by omega, fun hh => by omega⟩) hp
        have hbT := hI.bt
        rw [hp] at hbT
        have t0 : wr.cell? ⟨w.heap.size, 0, none⟩ = some (.pointer p) := hbT.cell 0
        have HSS := Lib.hid (show ∀ W, St (fun b => b = w.heap.size + 2 ∨ b = w.heap.size) wr W → W.cell? ⟨b, o + j * 8, none⟩ = some (.int .i64 a.kd) ∧ W.cell? ⟨b, o + j * 8 + 1, none⟩ = some (.string a.k) ∧ W.cell? ⟨b, o + j * 8 + 2, none⟩ = some (.int .i64 a.v.kind) ∧ W.cell? ⟨b, o + j * 8 + 3, none⟩ = some (.bool a.v.b) ∧ W.cell? ⟨b, o + j * 8 + 4, none⟩ = some (.int .i64 a.v.i) ∧ W.cell? ⟨b, o + j * 8 + 5, none⟩ = some (.string a.v.t) ∧ W.cell? ⟨b, o + j * 8 + 6, none⟩ = some (.slice a.sl.a a.v.l.length a.sl.c) ∧ W.cell? ⟨b, o + j * 8 + 7, none⟩ = some (.slice a.so.a a.v.ok.length a.so.c) from
          fun W hW => ⟨(hW.cell (by omega) (by omega)).trans a0, (hW.cell (by omega) (by omega)).trans a1, (hW.cell (by omega) (by omega)).trans v0, (hW.cell (by omega) (by omega)).trans v1, (hW.cell (by omega) (by omega)).trans v2, (hW.cell (by omega) (by omega)).trans v3, (hW.cell (by omega) (by omega)).trans v4, (hW.cell (by omega) (by omega)).trans v5⟩)
        have HDO := Lib.hid hdo
        have HBT := Lib.hid hI.bt
        have HP := Lib.hid hp
        have HOK := Lib.hid hI.p.ok
        clear hI hX haa hrv a0 a1 v0 v1 v2 v3 v4 v5 hdo hp hbT
        go_wp2_with fail
        refine wp_region_held_drew (S := (fun w' => St (fun b => b = w.heap.size + 2 ∨ b = w.heap.size) wr w')) (by kernel_rfl) (((St.refl _ wr).drew)) (fun hHeld => ?_)
        refine held_on (i := 1) (d := (some 34)) (v := ?_) rfl rfl (by kernel_rfl) (by kernel_rfl) (by kernel_rfl) (fun _ _ _ h => h) (by rfl) hHeld ?_ ?_
        rotate_left
        focus (intro w hSw; have hSc := HSS.out w hSw; clear hSw; go_simp; first | done | with_reducible rfl)
        try simp only [Act.put, List.setIfInBounds_toArray, List.set_cons_zero, List.set_cons_succ]
        refine held_on (i := 2) (d := (some 35)) (v := ?_) rfl rfl (by kernel_rfl) (by kernel_rfl) (by kernel_rfl) (fun _ _ _ h => h) (by rfl) hHeld ?_ ?_
        rotate_left
        focus (intro w hSw; have hSc := HSS.out w hSw; clear hSw; go_simp; first | done | with_reducible rfl)
        try simp only [Act.put, List.setIfInBounds_toArray, List.set_cons_zero, List.set_cons_succ]
        refine held_on (i := 3) (d := (some 36)) (v := ?_) rfl rfl (by kernel_rfl) (by kernel_rfl) (by kernel_rfl) (fun _ _ _ h => h) (by rfl) hHeld ?_ ?_
        rotate_left
        focus (intro w hSw; have hSc := HSS.out w hSw; clear hSw; go_simp; first | done | with_reducible rfl)
        try simp only [Act.put, List.setIfInBounds_toArray, List.set_cons_zero, List.set_cons_succ]
        refine held_on (i := 4) (d := (some 37)) (v := ?_) rfl rfl (by kernel_rfl) (by kernel_rfl) (by kernel_rfl) (fun _ _ _ h => h) (by rfl) hHeld ?_ ?_
        rotate_left
        focus (intro w hSw; have hSc := HSS.out w hSw; clear hSw; go_simp; first | done | with_reducible rfl)
        try simp only [Act.put, List.setIfInBounds_toArray, List.set_cons_zero, List.set_cons_succ]
        refine held_on (i := 5) (d := (some 38)) (v := ?_) rfl rfl (by kernel_rfl) (by kernel_rfl) (by kernel_rfl) (fun _ _ _ h => h) (by rfl) hHeld ?_ ?_
        rotate_left
        focus (intro w hSw; have hSc := HSS.out w hSw; clear hSw; go_simp; first | done | with_reducible rfl)
        try simp only [Act.put, List.setIfInBounds_toArray, List.set_cons_zero, List.set_cons_succ]
        refine held_call (i := 0) (by kernel_rfl) rfl (by rfl) (fun K hK => ?_)
        go_simp
        skip
        refine hK.out _ _ (hHeld) (fun hHeld => ?_)
        clear hK K
        try simp only [Act.put, List.setIfInBounds_toArray, List.set_cons_zero, List.set_cons_succ]
        refine held_call (i := 6) (by kernel_rfl) rfl (by rfl) (fun K hK => ?_)
        go_simp
        (refine (HDO.out _ ((Ext.refl wr).drew)).mono ?_; rintro e w2 ⟨T', p', rfl, hp', hst', hI', hs2⟩; have HP' := Lib.hid hp'; have HST' := Lib.hid hst'; have HI' := Lib.hid hI'; have hs3 := ((St.refl (fun b => b = w.heap.size + 2) wr).drew).trans hs2; have hb6 := hs3.blk HBT.out (show ¬ w.heap.size = w.heap.size + 2 by omega); have HB6 := Lib.hid hb6; rw [HP.out] at hb6; have c6 : w2.cell? ⟨w.heap.size, 0, none⟩ = some (.pointer p) := hb6.cell 0; have f6 := hb6.frozen 0; have l6 := hb6.lt; have HS6 := Lib.hid (hs3.mono (G := fun b => b = w.heap.size + 2 ∨ b = w.heap.size) fun i _ hi => .inl hi); clear hp' hst' hI' hb6 hs2 hs3)
        refine hK.out _ _ (HS6.out) (fun hHeld => ?_)
        clear hK K
        try simp only [Act.put, List.setIfInBounds_toArray, List.set_cons_zero, List.set_cons_succ]
        refine held_on (i := 7) (d := (some 32)) (v := ?_) rfl rfl (by kernel_rfl) (by kernel_rfl) (by kernel_rfl) (fun _ _ _ h => h) (by rfl) hHeld ?_ ?_
        rotate_left
        focus (intro w hSw; have hSc := HSS.out w hSw; clear hSw; go_simp; first | done | with_reducible rfl)
        try simp only [Act.put, List.setIfInBounds_toArray, List.set_cons_zero, List.set_cons_succ]
        refine held_on (i := 8) (d := (some 40)) (v := ?_) rfl rfl (by kernel_rfl) (by kernel_rfl) (by kernel_rfl) (fun _ _ _ h => h) (by rfl) hHeld ?_ ?_
        rotate_left
        focus (intro w hSw; have hSc := HSS.out w hSw; clear hSw; go_simp; first | done | with_reducible rfl)
        try simp only [Act.put, List.setIfInBounds_toArray, List.set_cons_zero, List.set_cons_succ]
        refine held_on (i := 9) (d := (some 41)) (v := ?_) rfl rfl (by kernel_rfl) (by kernel_rfl) (by kernel_rfl) (fun _ _ _ h => h) (by rfl) hHeld ?_ ?_
        rotate_left
        focus (intro w hSw; have hSc := HSS.out w hSw; clear hSw; go_simp; first | done | with_reducible rfl)
        try simp only [Act.put, List.setIfInBounds_toArray, List.set_cons_zero, List.set_cons_succ]
        refine held_call (i := 10) (by kernel_rfl) rfl (by rfl) (fun K hK => ?_)
        go_simp
        skip
        refine hK.out _ _ (hHeld.set (p := ⟨w.heap.size, 0, none⟩) (.inr (.inr rfl)) _) (fun hHeld => ?_)
        clear hK K
        try simp only [Act.put, List.setIfInBounds_toArray, List.set_cons_zero, List.set_cons_succ]
        refine wpAnyH_done (by kernel_rfl) ?_ _
        have hlen' : (entsT T').length ≤ j + 1 := by
          rw [HST'.out.ents HOK.out]
          have := stepE_len a.kd a.k a.v (entsT T)
          omega
        have HN := Lib.hid (HI.out.left HI'.out HS6.out HB6.out HP'.out)
        have HXN := Lib.hid (HX.out.step hHeld (fun b hb => by omega))
        generalize w2.setCell ⟨w.heap.size, 0, none⟩ (.pointer p') = w8 at *
        clear hHeld c6 f6 l6 t0
        go_wp2_with fail
        go_roundw
        case rel => exact ⟨j + 1, T', hlt, by go_num, hlen', HN.out, HXN.out⟩
        case measure => simp [intOf]; omega
      · have g1 : ¬ (j : Int) < (xa.length : Int) := by omega
        have hlTa : (entsT T).length ≤ 100 := by omega
        clear hI hX
        obtain ⟨w4, hw4⟩ : ∃ w4, w4 = wr := ⟨_, rfl⟩
        subst hw4
        go_wp2_with fail
        go_loopw [10] (fun i wr => ∃ (j : Nat) (U : RT), j ≤ bs.length ∧ i = .int .i64 j ∧ (entsT U).length ≤ j ∧ SameI w.heap.size T U wr ∧ Ext w wr) (fun i _ => bs.length - (intOf i).toNat)
        case atStart => exact ⟨0, none, Nat.zero_le _, rfl, Nat.zero_le _, HI.out, HX.out⟩
        case round =>
          obtain ⟨j2, U, hj2, rfl, hlU, hI, hX⟩ := hrel
          have HI := Lib.hid hI
          have HX := Lib.hid hX
          have hsz := hI.sz
          by_cases hlt2 : j2 < bs.length
          · have g1 : (j2 : Int) < (bs.length : Int) := by omega
            obtain ⟨a, haa⟩ : ∃ a, bs[j2]? = some a := ⟨_, List.getElem?_eq_getElem hlt2⟩
            obtain ⟨p, hp⟩ := rootV_ptr U
            obtain ⟨b, o, hsa, lb, hcc, hcm, ⟨a0, a1, av⟩, hrv, hkm, hwf⟩ := (HB.out.agree (hX.agree fun _ h => h)).at haa
            obtain ⟨v0, v1, v2, v3, v4, v5⟩ := av
            obtain ⟨sa, sc⟩ := s1
            dsimp only at hsa hcc hcm
            subst hsa
            have lb : b < w.heap.size := lb
            have hdo := doI (a := a) hI.q (fun b hb => by omega) (by omega) hkm (hrv.mono fun i (hi : i < w.heap.size) => ⟨by omega, fun hh => by omega⟩) hp
            have hbT := hI.bu
            rw [hp] at hbT
            have t0 : wr.cell? ⟨w.heap.size + 1, 0, none⟩ = some (.pointer p) := hbT.cell 0
            have HSS := Lib.hid (show ∀ W, St (fun b => b = w.heap.size + 3 ∨ b = w.heap.size + 1) wr W → W.cell? ⟨b, o + j2 * 8, none⟩ = some (.int .i64 a.kd) ∧ W.cell? ⟨b, o + j2 * 8 + 1, none⟩ = some (.string a.k) ∧ W.cell? ⟨b, o + j2 * 8 + 2, none⟩ = some (.int .i64 a.v.kind) ∧ W.cell? ⟨b, o + j2 * 8 + 3, none⟩ = some (.bool a.v.b) ∧ W.cell? ⟨b, o + j2 * 8 + 4, none⟩ = some (.int .i64 a.v.i) ∧ W.cell? ⟨b, o + j2 * 8 + 5, none⟩ = some (.string a.v.t) ∧ W.cell? ⟨b, o + j2 * 8 + 6, none⟩ = some (.slice a.sl.a a.v.l.length a.sl.c) ∧ W.cell? ⟨b, o + j2 * 8 + 7, none⟩ = some (.slice a.so.a a.v.ok.length a.so.c) from
              fun W hW => ⟨(hW.cell (by omega) (by omega)).trans a0, (hW.cell (by omega) (by omega)).trans a1, (hW.cell (by omega) (by omega)).trans v0, (hW.cell (by omega) (by omega)).trans v1, (hW.cell (by omega) (by omega)).trans v2, (hW.cell (by omega) (by omega)).trans v3, (hW.cell (by omega) (by omega)).trans v4, (hW.cell (by omega) (by omega)).trans v5⟩)
            have HDO := Lib.hid hdo
            have HBT := Lib.hid hI.bu
            have HP := Lib.hid hp
            have HOK := Lib.hid hI.q.ok
            clear hI hX haa hrv a0 a1 v0 v1 v2 v3 v4 v5 hdo hp hbT
            go_wp2_with fail
            refine wp_region_held_drew (S := (fun w' => St (fun b => b = w.heap.size + 3 ∨ b = w.heap.size + 1) wr w')) (by kernel_rfl) (((St.refl _ wr).drew)) (fun hHeld => ?_)
            refine held_on (i := 1) (d := (some 50)) (v := ?_) rfl rfl (by kernel_rfl) (by kernel_rfl) (by kernel_rfl) (fun _ _ _ h => h) (by rfl) hHeld ?_ ?_
            rotate_left
            focus (intro w hSw; have hSc := HSS.out w hSw; clear hSw; go_simp; first | done | with_reducible rfl)
            try simp only [Act.put, List.setIfInBounds_toArray, List.set_cons_zero, List.set_cons_succ]
            refine held_on (i := 2) (d := (some 51)) (v := ?_) rfl rfl (by kernel_rfl) (by kernel_rfl) (by kernel_rfl) (fun _ _ _ h => h) (by rfl) hHeld ?_ ?_
            rotate_left
            focus (intro w hSw; have hSc := HSS.out w hSw; clear hSw; go_simp; first | done | with_reducible rfl)
            try simp only [Act.put, List.setIfInBounds_toArray, List.set_cons_zero, List.set_cons_succ]
            refine held_on (i := 3) (d := (some 52)) (v := ?_) rfl rfl (by kernel_rfl) (by kernel_rfl) (by kernel_rfl) (fun _ _ _ h => h) (by rfl) hHeld ?_ ?_
            rotate_left
            focus (intro w hSw; have hSc := HSS.out w hSw; clear hSw; go_simp; first | done | with_reducible rfl)
            try simp only [Act.put, List.setIfInBounds_toArray, List.set_cons_zero, List.set_cons_succ]
            refine held_on (i := 4) (d := (some 53)) (v := ?_) rfl rfl (by kernel_rfl) (by kernel_rfl) (by kernel_rfl) (fun _ _ _ h => h) (by rfl) hHeld ?_ ?_
            rotate_left
            focus (intro w hSw; have hSc := HSS.out w hSw; clear hSw; go_simp; first | done | with_reducible rfl)
            try simp only [Act.put, List.setIfInBounds_toArray, List.set_cons_zero, List.set_cons_succ]
            refine held_on (i := 5) (d := (some 54)) (v := ?_) rfl rfl (by kernel_rfl) (by kernel_rfl) (by kernel_rfl) (fun _ _ _ h => h) (by rfl) hHeld ?_ ?_
            rotate_left
            focus (intro w hSw; have hSc := HSS.out w hSw; clear hSw; go_simp; first | done | with_reducible rfl)
            try simp only [Act.put, List.setIfInBounds_toArray, List.set_cons_zero, List.set_cons_succ]
            refine held_call (i := 0) (by kernel_rfl) rfl (by rfl) (fun K hK => ?_)
            go_simp
            skip
            refine hK.out _ _ (hHeld) (fun hHeld => ?_)
            clear hK K
            try simp only [Act.put, List.setIfInBounds_toArray, List.set_cons_zero, List.set_cons_succ]
            refine held_call (i := 6) (by kernel_rfl) rfl (by rfl) (fun K hK => ?_)
            go_simp
            (refine (HDO.out _ ((Ext.refl wr).drew)).mono ?_; rintro e w2 ⟨T', p', rfl, hp', hst', hI', hs2⟩; have HP' := Lib.hid hp'; have HST' := Lib.hid hst'; have HI' := Lib.hid hI'; have hs3 := ((St.refl (fun b => b = w.heap.size + 3) wr).drew).trans hs2; have hb6 := hs3.blk HBT.out (show ¬ w.heap.size + 1 = w.heap.size + 3 by omega); have HB6 := Lib.hid hb6; rw [HP.out] at hb6; have c6 : w2.cell? ⟨w.heap.size + 1, 0, none⟩ = some (.pointer p) := hb6.cell 0; have f6 := hb6.frozen 0; have l6 := hb6.lt; have HS6 := Lib.hid (hs3.mono (G := fun b => b = w.heap.size + 3 ∨ b = w.heap.size + 1) fun i _ hi => .inl hi); clear hp' hst' hI' hb6 hs2 hs3)
            refine hK.out _ _ (HS6.out) (fun hHeld => ?_)
            clear hK K
            try simp only [Act.put, List.setIfInBounds_toArray, List.set_cons_zero, List.set_cons_succ]
            refine held_on (i := 7) (d := (some 48)) (v := ?_) rfl rfl (by kernel_rfl) (by kernel_rfl) (by kernel_rfl) (fun _ _ _ h => h) (by rfl) hHeld ?_ ?_
            rotate_left
            focus (intro w hSw; have hSc := HSS.out w hSw; clear hSw; go_simp; first | done | with_reducible rfl)
            try simp only [Act.put, List.setIfInBounds_toArray, List.set_cons_zero, List.set_cons_succ]
            refine held_on (i := 8) (d := (some 56)) (v := ?_) rfl rfl (by kernel_rfl) (by kernel_rfl) (by kernel_rfl) (fun _ _ _ h => h) (by rfl) hHeld ?_ ?_
            rotate_left
            focus (intro w hSw; have hSc := HSS.out w hSw; clear hSw; go_simp; first | done | with_reducible rfl)
            try simp only [Act.put, List.setIfInBounds_toArray, List.set_cons_zero, List.set_cons_succ]
            refine held_on (i := 9) (d := (some 57)) (v := ?_) rfl rfl (by kernel_rfl) (by kernel_rfl) (by kernel_rfl) (fun _ _ _ h => h) (by rfl) hHeld ?_ ?_
            rotate_left
            focus (intro w hSw; have hSc := HSS.out w hSw; clear hSw; go_simp; first | done | with_reducible rfl)
            try simp only [Act.put, List.setIfInBounds_toArray, List.set_cons_zero, List.set_cons_succ]
            refine held_call (i := 10) (by kernel_rfl) rfl (by rfl) (fun K hK => ?_)
            go_simp
            skip
            refine hK.out _ _ (hHeld.set (p := ⟨w.heap.size + 1, 0, none⟩) (.inr (.inr rfl)) _) (fun hHeld => ?_)
            clear hK K
            try simp only [Act.put, List.setIfInBounds_toArray, List.set_cons_zero, List.set_cons_succ]
            refine wpAnyH_done (by kernel_rfl) ?_ _
            have hlen' : (entsT T').length ≤ j2 + 1 := by
              rw [HST'.out.ents HOK.out]
              have := stepE_len a.kd a.k a.v (entsT U)
              omega
            have HN := Lib.hid (HI.out.right HI'.out HS6.out HB6.out HP'.out)
            have HXN := Lib.hid (HX.out.step hHeld (fun b hb => by omega))
            generalize w2.setCell ⟨w.heap.size + 1, 0, none⟩ (.pointer p') = w8 at *
            clear hHeld c6 f6 l6 t0
            go_wp2_with fail
            go_roundw
            case rel => exact ⟨j2 + 1, T', hlt2, by go_num, hlen', HN.out, HXN.out⟩
            case measure => simp [intOf]; omega
          · have g1 : ¬ (j2 : Int) < (bs.length : Int) := by omega
            have hlUb : (entsT U).length ≤ 100 := by omega
            obtain ⟨p, hp⟩ := rootV_ptr T
            obtain ⟨q, hq⟩ := rootV_ptr U
            obtain ⟨-, sm, xm, hbm, hem, hxm⟩ := hI.p.map
            have hlx : xm.length ≤ 100 := by have := congrArg List.length hxm; simp at this; omega
            have hbd := build_any (hem.mono (G := Lt wr.heap.size) fun i hi => hi.1) (by omega)
            rw [hxm] at hbd
            have m0 : wr.cell? ⟨w.heap.size + 2, 0, none⟩ = some (.slice sm.a xm.length sm.c) := hbm.cell 0
            have lm := hbm.lt
            have HBD := Lib.hid hbd
            have HP := Lib.hid hp
            have HQ := Lib.hid hq
            clear hI hX hbm hem hxm hbd hp hq
            go_wp2_with fail
            refine HBD.out.mono ?_
            rintro e w5 ⟨V, rfl, hbt, hV, hx5⟩
            obtain ⟨v, hv⟩ := rootV_ptr V
            dsimp only [treeV]
            rw [hv]
            have hVo := hbt.both.1
            have hVe : entsT V = entsT T := hbt.both.2.trans (putAll_self (A := []) (l := entsT T) HI.out.p.ok.sorted)
            have HV := Lib.hid hV
            have HVO := Lib.hid hVo
            have HVE := Lib.hid hVe
            have HVP := Lib.hid hv
            have HX5 := Lib.hid (HX.out.trans hx5)
            have HI5 := Lib.hid (HI.out.ext hx5)
            have hs5 := hx5.size
            clear hbt hV hx5 hVo hVe hv m0 lm
            go_wp2_with fail
            generalize hW6 : World.alloc w5 _ = W6
            have hx6 : Ext w5 W6 := by rw [← hW6]; exact (Ext.refl w5).alloc _ _
            have hb6 : Blk W6 w5.heap.size 30 #[.pointer v] := by rw [← hW6]; exact Blk.new w5 _ _
            have hI6 := HI5.out.ext hx6
            have hsm := same7_any hI6.p.map hI6.q.map
            have HSM := Lib.hid hsm
            have HI6 := Lib.hid hI6
            have HV6 := Lib.hid (HV.out.agree (hx6.agree fun b hb => hb.2))
            have HB6 := Lib.hid hb6
            have HX6 := Lib.hid (HX5.out.trans hx6)
            have hs6 := hx6.size
            clear hW6 hx6 hb6 hI6 hsm HI5 HV HX5
            go_wp2_with fail
            refine HSM.out.mono ?_
            rintro e w7 ⟨rfl, hx7⟩
            have hI7 := HI6.out.ext hx7
            have hV7 := HV6.out.agree (hx7.agree fun b hb => by have := hb.2; omega)
            have hb7 := HB6.out.ext hx7
            have HX7 := Lib.hid (HX6.out.trans hx7)
            have hs7 := hx7.size
            have okT := hI7.p.ok
            have okU := hI7.q.ok
            have hsTU := fun (W : World) (hW : Ext w7 W) => treeSame_any (F := NH (fun b => w.heap.size ≤ b ∧ b < w.heap.size + 4) W) (F' := NH (fun b => w.heap.size ≤ b ∧ b < w.heap.size + 4) W) (fun b hb => hb.1) (fun b hb => hb.1) (hI7.ext hW).p.tree (hI7.ext hW).q.tree okT okU (by omega) (by omega)
            have hsUT := fun (W : World) (hW : Ext w7 W) => treeSame_any (F := NH (fun b => w.heap.size ≤ b ∧ b < w.heap.size + 4) W) (F' := NH (fun b => w.heap.size ≤ b ∧ b < w.heap.size + 4) W) (fun b hb => hb.1) (fun b hb => hb.1) (hI7.ext hW).q.tree (hI7.ext hW).p.tree okU okT (by omega) (by omega)
            have hsTV := fun (W : World) (hW : Ext w7 W) => treeSame_any (F := NH (fun b => w.heap.size ≤ b ∧ b < w.heap.size + 4) W) (F' := In wr.heap.size w5.heap.size) (fun b hb => hb.1) (fun b hb => by have := hb.2; have := hW.size; omega) (hI7.ext hW).p.tree (hV7.agree (hW.agree fun b hb => by have := hb.2; omega)) okT HVO.out (by omega) (by rw [HVE.out]; omega)
            have hsTT := fun (W : World) (hW : Ext w7 W) => treeSame_any (F := NH (fun b => w.heap.size ≤ b ∧ b < w.heap.size + 4) W) (F' := NH (fun b => w.heap.size ≤ b ∧ b < w.heap.size + 4) W) (fun b hb => hb.1) (fun b hb => hb.1) (hI7.ext hW).p.tree (hI7.ext hW).p.tree okT okT (by omega) (by omega)
            rw [sameE_swap] at hsUT
            rw [HVE.out, sameE_refl] at hsTV
            rw [sameE_refl] at hsTT
            rw [treeV, treeV, HP.out, HQ.out] at hsTU
            rw [treeV, treeV, HP.out, HQ.out] at hsUT
            rw [treeV, treeV, HP.out, HVP.out] at hsTV
            rw [treeV, HP.out] at hsTT
            have hbT := hI7.bt
            have hbU := hI7.bu
            rw [HP.out] at hbT
            rw [HQ.out] at hbU
            have lpT := hI7.p.tree.leads HP.out
            have lqU := hI7.q.tree.leads HQ.out
            have HSS := Lib.hid (show ∀ W, Ext w7 W → W.cell? ⟨w.heap.size, 0, none⟩ = some (.pointer p) ∧ W.cell? ⟨w.heap.size + 1, 0, none⟩ = some (.pointer q) ∧ W.cell? ⟨w5.heap.size, 0, none⟩ = some (.pointer v) ∧ (binOp BinOp.eql 28 (Value.pointer p) (Value.pointer q)).run Try.prog W = .ok (.bool (decide (p = q))) W from
              fun W hW => ⟨(hbT.ext hW).cell 0, (hbU.ext hW).cell 0, (hb7.ext hW).cell 0, eql_ptr_any W p q (lpT.ext hW) (lqU.ext hW)⟩)
            have HTU := Lib.hid hsTU
            have HUT := Lib.hid hsUT
            have HTV := Lib.hid hsTV
            have HTT := Lib.hid hsTT
            have HII := Lib.hid (fun (W : World) (hW : Ext w7 W) => is_any W p q (lpT.ext hW) (lqU.ext hW))
            clear hI7 hV7 hb7 hx7 okT okU hsTU hsUT hsTV hsTT hbT hbU lpT lqU
            obtain ⟨r, hr⟩ : ∃ r, sameE (entsT T) (entsT U) = r := ⟨_, rfl⟩
            obtain ⟨d, hd⟩ : ∃ d, decide (p = q) = d := ⟨_, rfl⟩
            rw [hr] at HTU HUT ⊢
            rw [hd] at HSS HII
            clear hr hd
            have hrr : (r == r) = true := by simp
            have hdd : (d == d) = true := by simp
            go_wp2_with fail
            refine wp_region_held_drew (S := (fun w' => Ext w7 w')) (by kernel_rfl) (((Ext.refl w7).drew)) (fun hHeld => ?_)
            refine held_on (i := 0) (d := (some 66)) (v := ?_) rfl rfl (by kernel_rfl) (by kernel_rfl) (by kernel_rfl) (fun _ _ _ h => h) (by rfl) hHeld ?_ ?_
            rotate_left
            focus (intro w hSw; have hSc := HSS.out w hSw; clear hSw; go_simp; first | done | with_reducible rfl)
            try simp only [Act.put, List.setIfInBounds_toArray, List.set_cons_zero, List.set_cons_succ]
            refine held_on (i := 1) (d := (some 67)) (v := ?_) rfl rfl (by kernel_rfl) (by kernel_rfl) (by kernel_rfl) (fun _ _ _ h => h) (by rfl) hHeld ?_ ?_
            rotate_left
            focus (intro w hSw; have hSc := HSS.out w hSw; clear hSw; go_simp; first | done | with_reducible rfl)
            try simp only [Act.put, List.setIfInBounds_toArray, List.set_cons_zero, List.set_cons_succ]
            refine held_on (i := 3) (d := (some 69)) (v := ?_) rfl rfl (by kernel_rfl) (by kernel_rfl) (by kernel_rfl) (fun _ _ _ h => h) (by rfl) hHeld ?_ ?_
            rotate_left
            focus (intro w hSw; have hSc := HSS.out w hSw; clear hSw; go_simp; first | done | with_reducible rfl)
            try simp only [Act.put, List.setIfInBounds_toArray, List.set_cons_zero, List.set_cons_succ]
            refine held_call (i := 2) (by kernel_rfl) rfl (by rfl) (fun K hK => ?_)
            go_simp
            (refine (HTU.out _ hHeld).mono ?_; rintro e wa ⟨rfl, hxa⟩)
            refine hK.out _ _ (hHeld.trans hxa) (fun hHeld => ?_)
            clear hK K
            try simp only [Act.put, List.setIfInBounds_toArray, List.set_cons_zero, List.set_cons_succ]
            refine held_on (i := 4) (d := (some 70)) (v := ?_) rfl rfl (by kernel_rfl) (by kernel_rfl) (by kernel_rfl) (fun _ _ _ h => h) (by rfl) hHeld ?_ ?_
            rotate_left
            focus (intro w hSw; have hSc := HSS.out w hSw; clear hSw; go_simp; first | done | with_reducible rfl)
            try simp only [Act.put, List.setIfInBounds_toArray, List.set_cons_zero, List.set_cons_succ]
            refine held_on (i := 5) (d := (some 71)) (v := ?_) rfl rfl (by kernel_rfl) (by kernel_rfl) (by kernel_rfl) (fun _ _ _ h => h) (by rfl) hHeld ?_ ?_
            rotate_left
            focus (intro w hSw; have hSc := HSS.out w hSw; clear hSw; go_simp; first | done | with_reducible rfl)
            try simp only [Act.put, List.setIfInBounds_toArray, List.set_cons_zero, List.set_cons_succ]
            refine held_on (i := 6) (d := (some 72)) (v := ?_) rfl rfl (by kernel_rfl) (by kernel_rfl) (by kernel_rfl) (fun _ _ _ h => h) (by rfl) hHeld ?_ ?_
            rotate_left
            focus (intro w hSw; have hSc := HSS.out w hSw; clear hSw; go_simp; first | done | with_reducible rfl)
            try simp only [Act.put, List.setIfInBounds_toArray, List.set_cons_zero, List.set_cons_succ]
            refine held_on (i := 7) (d := (some 73)) (v := ?_) rfl rfl (by kernel_rfl) (by kernel_rfl) (by kernel_rfl) (fun _ _ _ h => h) (by rfl) hHeld ?_ ?_
            rotate_left
            focus (intro w hSw; have hSc := HSS.out w hSw; clear hSw; go_simp; first | done | with_reducible rfl)
            try simp only [Act.put, List.setIfInBounds_toArray, List.set_cons_zero, List.set_cons_succ]
            refine held_on (i := 9) (d := (some 75)) (v := ?_) rfl rfl (by kernel_rfl) (by kernel_rfl) (by kernel_rfl) (fun _ _ _ h => h) (by rfl) hHeld ?_ ?_
            rotate_left
            focus (intro w hSw; have hSc := HSS.out w hSw; clear hSw; go_simp; first | done | with_reducible rfl)
            try simp only [Act.put, List.setIfInBounds_toArray, List.set_cons_zero, List.set_cons_succ]
            refine held_call (i := 8) (by kernel_rfl) rfl (by rfl) (fun K hK => ?_)
            go_simp
            (refine (HUT.out _ hHeld).mono ?_; rintro e wb ⟨rfl, hxb⟩)
            refine hK.out _ _ (hHeld.trans hxb) (fun hHeld => ?_)
            clear hK K
            try simp only [Act.put, List.setIfInBounds_toArray, List.set_cons_zero, List.set_cons_succ]
            refine held_on (i := 10) (d := (some 76)) (v := ?_) rfl rfl (by kernel_rfl) (by kernel_rfl) (by kernel_rfl) (fun _ _ _ h => h) (by rfl) hHeld ?_ ?_
            rotate_left
            focus (intro w hSw; have hSc := HSS.out w hSw; clear hSw; go_simp; first | done | with_reducible rfl)
            try simp only [Act.put, List.setIfInBounds_toArray, List.set_cons_zero, List.set_cons_succ]
            refine held_on (i := 11) (d := (some 77)) (v := ?_) rfl rfl (by kernel_rfl) (by kernel_rfl) (by kernel_rfl) (fun _ _ _ h => h) (by rfl) hHeld ?_ ?_
            rotate_left
            focus (intro w hSw; have hSc := HSS.out w hSw; clear hSw; go_simp; first | done | with_reducible rfl)
            try simp only [Act.put, List.setIfInBounds_toArray, List.set_cons_zero, List.set_cons_succ]
            refine held_on (i := 12) (d := (some 78)) (v := ?_) rfl rfl (by kernel_rfl) (by kernel_rfl) (by kernel_rfl) (fun _ _ _ h => h) (by rfl) hHeld ?_ ?_
            rotate_left
            focus (intro w hSw; have hSc := HSS.out w hSw; clear hSw; go_simp; first | done | with_reducible rfl)
            try simp only [Act.put, List.setIfInBounds_toArray, List.set_cons_zero, List.set_cons_succ]
            refine held_on (i := 13) (d := (some 79)) (v := ?_) rfl rfl (by kernel_rfl) (by kernel_rfl) (by kernel_rfl) (fun _ _ _ h => h) (by rfl) hHeld ?_ ?_
            rotate_left
            focus (intro w hSw; have hSc := HSS.out w hSw; clear hSw; go_simp; first | done | with_reducible rfl)
            try simp only [Act.put, List.setIfInBounds_toArray, List.set_cons_zero, List.set_cons_succ]
            refine held_on (i := 14) (d := (some 80)) (v := ?_) rfl rfl (by kernel_rfl) (by kernel_rfl) (by kernel_rfl) (fun _ _ _ h => h) (by rfl) hHeld ?_ ?_
            rotate_left
            focus (intro w hSw; have hSc := HSS.out w hSw; clear hSw; go_simp; first | done | with_reducible rfl)
            try simp only [Act.put, List.setIfInBounds_toArray, List.set_cons_zero, List.set_cons_succ]
            refine held_call (i := 15) (by kernel_rfl) rfl (by rfl) (fun K hK => ?_)
            go_simp
            (refine (HTV.out _ hHeld).mono ?_; rintro e wc ⟨rfl, hxc⟩)
            refine hK.out _ _ (hHeld.trans hxc) (fun hHeld => ?_)
            clear hK K
            try simp only [Act.put, List.setIfInBounds_toArray, List.set_cons_zero, List.set_cons_succ]
            refine held_on (i := 16) (d := (some 82)) (v := ?_) rfl rfl (by kernel_rfl) (by kernel_rfl) (by kernel_rfl) (fun _ _ _ h => h) (by rfl) hHeld ?_ ?_
            rotate_left
            focus (intro w hSw; have hSc := HSS.out w hSw; clear hSw; go_simp; first | done | with_reducible rfl)
            try simp only [Act.put, List.setIfInBounds_toArray, List.set_cons_zero, List.set_cons_succ]
            refine held_on (i := 17) (d := (some 83)) (v := ?_) rfl rfl (by kernel_rfl) (by kernel_rfl) (by kernel_rfl) (fun _ _ _ h => h) (by rfl) hHeld ?_ ?_
            rotate_left
            focus (intro w hSw; have hSc := HSS.out w hSw; clear hSw; go_simp; first | done | with_reducible rfl)
            try simp only [Act.put, List.setIfInBounds_toArray, List.set_cons_zero, List.set_cons_succ]
            refine held_on (i := 18) (d := (some 84)) (v := ?_) rfl rfl (by kernel_rfl) (by kernel_rfl) (by kernel_rfl) (fun _ _ _ h => h) (by rfl) hHeld ?_ ?_
            rotate_left
            focus (intro w hSw; have hSc := HSS.out w hSw; clear hSw; go_simp; first | done | with_reducible rfl)
            try simp only [Act.put, List.setIfInBounds_toArray, List.set_cons_zero, List.set_cons_succ]
            refine held_on (i := 19) (d := (some 85)) (v := ?_) rfl rfl (by kernel_rfl) (by kernel_rfl) (by kernel_rfl) (fun _ _ _ h => h) (by rfl) hHeld ?_ ?_
            rotate_left
            focus (intro w hSw; have hSc := HSS.out w hSw; clear hSw; go_simp; first | done | with_reducible rfl)
            try simp only [Act.put, List.setIfInBounds_toArray, List.set_cons_zero, List.set_cons_succ]
            refine held_call (i := 20) (by kernel_rfl) rfl (by rfl) (fun K hK => ?_)
            go_simp
            (refine (is_same _ p).mono ?_; rintro e wd ⟨rfl, hxd⟩)
            refine hK.out _ _ (hHeld.trans hxd) (fun hHeld => ?_)
            clear hK K
            try simp only [Act.put, List.setIfInBounds_toArray, List.set_cons_zero, List.set_cons_succ]
            refine held_on (i := 21) (d := (some 87)) (v := ?_) rfl rfl (by kernel_rfl) (by kernel_rfl) (by kernel_rfl) (fun _ _ _ h => h) (by rfl) hHeld ?_ ?_
            rotate_left
            focus (intro w hSw; have hSc := HSS.out w hSw; clear hSw; go_simp; first | done | with_reducible rfl)
            try simp only [Act.put, List.setIfInBounds_toArray, List.set_cons_zero, List.set_cons_succ]
            refine held_on (i := 22) (d := (some 88)) (v := ?_) rfl rfl (by kernel_rfl) (by kernel_rfl) (by kernel_rfl) (fun _ _ _ h => h) (by rfl) hHeld ?_ ?_
            rotate_left
            focus (intro w hSw; have hSc := HSS.out w hSw; clear hSw; go_simp; first | done | with_reducible rfl)
            try simp only [Act.put, List.setIfInBounds_toArray, List.set_cons_zero, List.set_cons_succ]
            refine held_on (i := 23) (d := (some 89)) (v := ?_) rfl rfl (by kernel_rfl) (by kernel_rfl) (by kernel_rfl) (fun _ _ _ h => h) (by rfl) hHeld ?_ ?_
            rotate_left
            focus (intro w hSw; have hSc := HSS.out w hSw; clear hSw; go_simp; first | done | with_reducible rfl)
            try simp only [Act.put, List.setIfInBounds_toArray, List.set_cons_zero, List.set_cons_succ]
            refine held_on (i := 24) (d := (some 90)) (v := ?_) rfl rfl (by kernel_rfl) (by kernel_rfl) (by kernel_rfl) (fun _ _ _ h => h) (by rfl) hHeld ?_ ?_
            rotate_left
            focus (intro w hSw; have hSc := HSS.out w hSw; clear hSw; go_simp; first | done | with_reducible rfl)
            try simp only [Act.put, List.setIfInBounds_toArray, List.set_cons_zero, List.set_cons_succ]
            refine held_call (i := 25) (by kernel_rfl) rfl (by rfl) (fun K hK => ?_)
            go_simp
            (refine (HTT.out _ hHeld).mono ?_; rintro e we ⟨rfl, hxe⟩)
            refine hK.out _ _ (hHeld.trans hxe) (fun hHeld => ?_)
            clear hK K
            try simp only [Act.put, List.setIfInBounds_toArray, List.set_cons_zero, List.set_cons_succ]
            refine held_on (i := 26) (d := (some 92)) (v := ?_) rfl rfl (by kernel_rfl) (by kernel_rfl) (by kernel_rfl) (fun _ _ _ h => h) (by rfl) hHeld ?_ ?_
            rotate_left
            focus (intro w hSw; have hSc := HSS.out w hSw; clear hSw; go_simp; first | done | with_reducible rfl)
            try simp only [Act.put, List.setIfInBounds_toArray, List.set_cons_zero, List.set_cons_succ]
            refine held_on (i := 27) (d := (some 93)) (v := ?_) rfl rfl (by kernel_rfl) (by kernel_rfl) (by kernel_rfl) (fun _ _ _ h => h) (by rfl) hHeld ?_ ?_
            rotate_left
            focus (intro w hSw; have hSc := HSS.out w hSw; clear hSw; go_simp; first | done | with_reducible rfl)
            try simp only [Act.put, List.setIfInBounds_toArray, List.set_cons_zero, List.set_cons_succ]
            refine held_on (i := 28) (d := (some 94)) (v := ?_) rfl rfl (by kernel_rfl) (by kernel_rfl) (by kernel_rfl) (fun _ _ _ h => h) (by rfl) hHeld ?_ ?_
            rotate_left
            focus (intro w hSw; have hSc := HSS.out w hSw; clear hSw; go_simp; first | done | with_reducible rfl)
            try simp only [Act.put, List.setIfInBounds_toArray, List.set_cons_zero, List.set_cons_succ]
            refine held_on (i := 29) (d := (some 95)) (v := ?_) rfl rfl (by kernel_rfl) (by kernel_rfl) (by kernel_rfl) (fun _ _ _ h => h) (by rfl) hHeld ?_ ?_
            rotate_left
            focus (intro w hSw; have hSc := HSS.out w hSw; clear hSw; go_simp; first | done | with_reducible rfl)
            try simp only [Act.put, List.setIfInBounds_toArray, List.set_cons_zero, List.set_cons_succ]
            refine held_on (i := 31) (d := (some 97)) (v := ?_) rfl rfl (by kernel_rfl) (by kernel_rfl) (by kernel_rfl) (fun _ _ _ h => h) (by rfl) hHeld ?_ ?_
            rotate_left
            focus (intro w hSw; have hSc := HSS.out w hSw; clear hSw; go_simp; first | done | with_reducible rfl)
            try simp only [Act.put, List.setIfInBounds_toArray, List.set_cons_zero, List.set_cons_succ]
            refine held_on (i := 33) (d := (some 99)) (v := ?_) rfl rfl (by kernel_rfl) (by kernel_rfl) (by kernel_rfl) (fun _ _ _ h => h) (by rfl) hHeld ?_ ?_
            rotate_left
            focus (intro w hSw; have hSc := HSS.out w hSw; clear hSw; go_simp; first | done | with_reducible rfl)
            try simp only [Act.put, List.setIfInBounds_toArray, List.set_cons_zero, List.set_cons_succ]
            refine held_call (i := 30) (by kernel_rfl) rfl (by rfl) (fun K hK => ?_)
            go_simp
            (refine (HII.out _ hHeld).mono ?_; rintro e wf ⟨rfl, hxf⟩)
            refine hK.out _ _ (hHeld.trans hxf) (fun hHeld => ?_)
            clear hK K
            try simp only [Act.put, List.setIfInBounds_toArray, List.set_cons_zero, List.set_cons_succ]
            refine held_call (i := 32) (by kernel_rfl) rfl (by rfl) (fun K hK => ?_)
            go_simp
            (refine (treeRoot_any _ _).mono ?_; rintro e wg ⟨rfl, hxg⟩)
            refine hK.out _ _ (hHeld.trans hxg) (fun hHeld => ?_)
            clear hK K
            try simp only [Act.put, List.setIfInBounds_toArray, List.set_cons_zero, List.set_cons_succ]
            refine held_call (i := 34) (by kernel_rfl) rfl (by rfl) (fun K hK => ?_)
            go_simp
            (refine (treeRoot_any _ _).mono ?_; rintro e wh ⟨rfl, hxh⟩)
            refine hK.out _ _ (hHeld.trans hxh) (fun hHeld => ?_)
            clear hK K
            try simp only [Act.put, List.setIfInBounds_toArray, List.set_cons_zero, List.set_cons_succ]
            refine held_on (i := 35) (d := (some 101)) (v := ?_) rfl rfl (by kernel_rfl) (by kernel_rfl) (by kernel_rfl) (fun _ _ _ h => h) (by rfl) hHeld ?_ ?_
            rotate_left
            focus (intro w hSw; have hSc := HSS.out w hSw; clear hSw; go_simp; first | done | with_reducible rfl)
            try simp only [Act.put, List.setIfInBounds_toArray, List.set_cons_zero, List.set_cons_succ]
            refine held_on (i := 36) (d := (some 102)) (v := ?_) rfl rfl (by kernel_rfl) (by kernel_rfl) (by kernel_rfl) (fun _ _ _ h => h) (by rfl) hHeld ?_ ?_
            rotate_left
            focus (intro w hSw; have hSc := HSS.out w hSw; clear hSw; go_simp; first | done | with_reducible rfl)
            try simp only [Act.put, List.setIfInBounds_toArray, List.set_cons_zero, List.set_cons_succ]
            refine held_on (i := 37) (d := (some 103)) (v := ?_) rfl rfl (by kernel_rfl) (by kernel_rfl) (by kernel_rfl) (fun _ _ _ h => h) (by rfl) hHeld ?_ ?_
            rotate_left
            focus (intro w hSw; have hSc := HSS.out w hSw; clear hSw; go_simp; first | done | with_reducible rfl)
            try simp only [Act.put, List.setIfInBounds_toArray, List.set_cons_zero, List.set_cons_succ]
            refine held_on (i := 38) (d := (some 104)) (v := ?_) rfl rfl (by kernel_rfl) (by kernel_rfl) (by kernel_rfl) (fun _ _ _ h => h) (by rfl) hHeld ?_ ?_
            rotate_left
            focus (intro w hSw; have hSc := HSS.out w hSw; clear hSw; go_simp; first | done | with_reducible rfl)
            try simp only [Act.put, List.setIfInBounds_toArray, List.set_cons_zero, List.set_cons_succ]
            refine held_call (i := 39) (by kernel_rfl) rfl (by rfl) (fun K hK => ?_)
            go_simp
            (refine (known07 _).mono ?_; rintro e wi ⟨rfl, hxi⟩)
            refine hK.out _ _ (hHeld.trans hxi) (fun hHeld => ?_)
            clear hK K
            try simp only [Act.put, List.setIfInBounds_toArray, List.set_cons_zero, List.set_cons_succ]
            refine held_on (i := 40) (d := (some 106)) (v := ?_) rfl rfl (by kernel_rfl) (by kernel_rfl) (by kernel_rfl) (fun _ _ _ h => h) (by rfl) hHeld ?_ ?_
            rotate_left
            focus (intro w hSw; have hSc := HSS.out w hSw; clear hSw; go_simp; first | done | with_reducible rfl)
            try simp only [Act.put, List.setIfInBounds_toArray, List.set_cons_zero, List.set_cons_succ]
            refine held_on (i := 41) (d := (some 4)) (v := ?_) rfl rfl (by kernel_rfl) (by kernel_rfl) (by kernel_rfl) (fun _ _ _ h => h) (by rfl) hHeld ?_ ?_
            rotate_left
            focus (intro w hSw; have hSc := HSS.out w hSw; clear hSw; go_simp; first | done | with_reducible rfl)
            try simp only [Act.put, List.setIfInBounds_toArray, List.set_cons_zero, List.set_cons_succ]
            refine wpAnyH_done (by kernel_rfl) ?_ _
            have HXE := Lib.hid (HX7.out.trans hHeld)
            clear hHeld
            go_wp2_with fail
            go_ret
            exact ⟨rfl, HXE.out⟩
end Go.Proofs.Ytpapoalgocmlaaa
