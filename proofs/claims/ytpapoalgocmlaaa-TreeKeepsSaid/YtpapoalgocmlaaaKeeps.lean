/- TreeKeeps, the walk. -/
import Derived.Test.YtpapoalgocmlaaaKeepI
namespace Go.Proofs.Ytpapoalgocmlaaa
open Go.RowKit
set_option linter.unusedVariables false
set_option linter.unusedSimpArgs false
theorem Try.infoTreeK : (Try.prog.info? 30).map (fun i => (i.zero, i.size, i.bytes)) = some (some (.agg #[.pointer none]), 1, 8) := by kernel_rfl
theorem Try.infoPMap : (Try.prog.info? 80).map (fun i => (i.zero, i.size, i.bytes)) = some (some (.pointer none), 1, 8) := by kernel_rfl
theorem rem_facts (x : Int) (m : Nat) (hn' : m ≤ 1000) : ∃ k : Nat, k < m + 1 ∧ (IntKind.u64.wrap x).tmod ((m : Int) + 1) = (k : Int) ∧ IntKind.u64.wrap ((m : Int) + 1) = (m : Int) + 1 ∧ IntKind.i64.wrap (k : Int) = (k : Int) ∧ IntKind.u64.wrap (k : Int) = (k : Int) := by
  have h0 : 0 ≤ IntKind.u64.wrap x := by rw [IntKind.wrap_u64]; omega
  have hp : 0 < (m : Int) + 1 := by omega
  have h1 := Int.tmod_lt_of_pos (IntKind.u64.wrap x) hp
  have h2 := Int.tmod_nonneg ((m : Int) + 1) h0
  refine ⟨((IntKind.u64.wrap x).tmod ((m : Int) + 1)).toNat, by omega, by omega, ?_, ?_, ?_⟩
  · rw [IntKind.wrap_u64]; omega
  · rw [IntKind.wrap_i64]; omega
  · rw [IntKind.wrap_u64]; omega
set_option maxRecDepth 100000 in
set_option maxHeartbeats 8000000 in
theorem treekeeps_w (s0 : Sl) (acts : List LA) (s1 : Sl) (fr : List Int) (w : World) (ha : AS w (Lt w.heap.size) s0 acts) (hfr : IS w (Lt w.heap.size) s1 fr) : Calls Try.prog 11 #[.slice s0.a acts.length s0.c, .slice s1.a fr.length s1.c] w fun e w' => e = .returned (.bool true) ∧ Ext w w' := by
  have hfew := ha.few
  have hfew1 := hfr.few
  by_cases hbig : 80 < acts.length ∨ 100 < fr.length
  · have hcase : (80 : Int) < (acts.length : Int) ∨ (¬ (80 : Int) < (acts.length : Int) ∧ (100 : Int) < (fr.length : Int)) := by omega
    clear ha hfr hbig
    rcases hcase with g | ⟨g, g'⟩
    all_goals
      go_enter Try.func11, Try.ntmps11
      go_wp2_with fail
      refine (known07 w).mono ?_
      rintro e w9 ⟨rfl, hx9⟩
      go_wp2_with fail
      go_ret
      exact ⟨rfl, hx9⟩
  · have g80 : ¬ (80 : Int) < (acts.length : Int) := by omega
    have g100 : ¬ (100 : Int) < (fr.length : Int) := by omega
    obtain ⟨i0, hi, hz0, hz1, hz2⟩ := info_parts Try.infoTreeK
    obtain ⟨i1, hi', hy0, hy1, hy2⟩ := info_parts Try.infoPMap
    have HA := Lib.hid ha
    have HFR := Lib.hid hfr
    have hmk : ∀ W, (Instr.makeSlice 31 (.int .i64 1) (.int .i64 1)).run Try.prog W = .ok (.slice (some ⟨W.heap.size, 0, none⟩) 1 1) (W.alloc (.cells #[.pointer none] 30)) := fun W => by
      have h := run_make_rowN (P := Try.prog) 31 30 i0 _ Try.underlying31 hi hz0 .i64 .i64 1 1 (Nat.le_refl _) (by rw [hz2]; omega) (by omega) W
      rw [hz1, show madeCells (Value.agg #[Value.pointer none]).cells (1 * 1) = #[Value.pointer none] from by simp [madeCells, Value.cells]; exact ⟨0, by decide, rfl⟩] at h
      exact h
    clear ha hfr hfew hfew1
    go_enter Try.func11, Try.ntmps11
    go_wp2_with fail
    clear hmk
    generalize hW0 : World.alloc (World.alloc (World.alloc _ _) _) _ = W0
    obtain ⟨hx0, hzW, hb0, hb1, hb2⟩ := three_blocks w _ _ _ _ _ _ W0 hW0
    clear hW0
    have hK0 : KeepI w.heap.size (fun b => b = w.heap.size ∨ b = w.heap.size + 1 ∨ b = w.heap.size + 1 + 1) ⟨some ⟨w.heap.size, 0, none⟩, 1⟩ ⟨some ⟨w.heap.size + 1 + 1, 0, none⟩, 1⟩ [none] [w.heap.size + 1] W0 := by
      refine ⟨Nat.le_refl _, own_one hb0 (Nat.le_refl _), own_one hb2 (by omega), fun b hb => by omega, fun b hb => ?_, fun b hb => ?_, fun k T M hT hM => ?_⟩
      · obtain rfl : w.heap.size = b := by simpa [Sl.row] using hb
        exact ⟨.inl rfl, by simp, by simp [Sl.row]; omega⟩
      · obtain rfl : w.heap.size + 1 + 1 = b := by simpa [Sl.row] using hb
        exact ⟨.inr (.inr rfl), by simp⟩
      · have hk : k = 0 := by have := (List.getElem?_eq_some_iff.1 hT).1; simp at this; omega
        subst hk
        simp at hT hM; subst hT hM
        exact PlayI.nil (.inr (.inl rfl)) hb1
    have HK0 := Lib.hid hK0
    have HX0 := Lib.hid hx0
    clear hx0 hb0 hb1 hb2 hK0
    go_loopw [5, 6, 7] (fun v5 v6 i wr => ∃ (j : Nat) (H : Nat → Prop) (ts ms : Sl) (Ts : List RT) (Ms : List Nat), j ≤ acts.length ∧ i = .int .i64 j ∧ Ts.length = j + 1 ∧ Ms.length = j + 1 ∧ v5 = .slice ts.a (j + 1) ts.c ∧ v6 = .slice ms.a (j + 1) ms.c ∧ KeepI w.heap.size H ts ms Ts Ms wr ∧ (∀ T ∈ Ts, (entsT T).length ≤ j) ∧ Ext w wr) (fun _ _ i _ => acts.length - (intOf i).toNat)
    case atStart => exact ⟨0, _, ⟨some ⟨w.heap.size, 0, none⟩, 1⟩, ⟨some ⟨w.heap.size + 1 + 1, 0, none⟩, 1⟩, _, _, Nat.zero_le _, rfl, rfl, rfl, rfl, rfl, HK0.out, fun T hT => by obtain rfl := List.mem_singleton.1 hT; exact Nat.le_refl _, HX0.out⟩
    case round =>
      obtain ⟨j, H, ts, ms, Ts, Ms, hj, rfl, hTl, hMl, rfl, rfl, hK, hall, hX⟩ := hrel
      have HK := Lib.hid hK
      have HALL := Lib.hid hall
      have HX := Lib.hid hX
      have HTL := Lib.hid hTl
      have HML := Lib.hid hMl
      by_cases hlt : j < acts.length
      · have g1 : (j : Int) < (acts.length : Int) := by omega
        obtain ⟨a, haa⟩ : ∃ a, acts[j]? = some a := ⟨_, List.getElem?_eq_getElem hlt⟩
        obtain ⟨b, o, hsa, lb, hcc, hcm, ⟨a0, a1, av⟩, hrv, hkm, hwf⟩ := (HA.out.agree (hX.agree fun _ h => h)).at haa
        obtain ⟨v0, v1, v2, v3, v4, v5⟩ := av
        obtain ⟨s0a, s0c⟩ := s0
        dsimp only at hsa hcc hcm
        subst hsa
        replace lb : b < w.heap.size := lb
        have hcase : ∃ k : Nat, k < j + 1 ∧ ((∃ (x : Int) (b1 o1 : Nat), s1.a = some ⟨b1, o1, none⟩ ∧ j < fr.length ∧ fr.length ≤ s1.c ∧ s1.c ≤ maxLen ∧ wr.cell? ⟨b1, o1 + j, none⟩ = some (.int .i64 x) ∧ (IntKind.u64.wrap x).tmod ((j : Int) + 1) = (k : Int) ∧ IntKind.u64.wrap ((j : Int) + 1) = (j : Int) + 1 ∧ IntKind.i64.wrap (k : Int) = (k : Int) ∧ IntKind.u64.wrap (k : Int) = (k : Int)) ∨ (¬ j < fr.length ∧ j = k)) := by
          by_cases hf : j < fr.length
          · obtain ⟨x, hxx⟩ : ∃ x, fr[j]? = some x := ⟨_, List.getElem?_eq_getElem hf⟩
            obtain ⟨b1, o1, h1, h2, h3, h4, h5, h6⟩ := (HFR.out.agree (hX.agree fun _ h => h)).at hxx
            obtain ⟨k, hk, k1, k2, k3, k4⟩ := rem_facts x j (by omega)
            exact ⟨k, hk, .inl ⟨x, b1, o1, h1, hf, h3, h4, h5, k1, k2, k3, k4⟩⟩
          · exact ⟨j, by omega, .inr ⟨hf, rfl⟩⟩
        obtain ⟨k, hk, hcase⟩ := hcase
        obtain ⟨T, hT⟩ : ∃ T, Ts[k]? = some T := ⟨_, List.getElem?_eq_getElem (by omega)⟩
        obtain ⟨M, hM⟩ : ∃ M, Ms[k]? = some M := ⟨_, List.getElem?_eq_getElem (by omega)⟩
        obtain ⟨p, hp⟩ := rootV_ptr T
        obtain ⟨gT, hta, htr, htb, htl, htc, htm, htk⟩ := own_at hK.tro (i := k) (v := rootV T) (by rw [List.getElem?_map, hT]; rfl)
        obtain ⟨gM, hma, hmr, hmb, hml, hmc, hmm, hmk⟩ := own_at hK.mro (i := k) (v := mapP M) (by rw [List.getElem?_map, hM]; rfl)
        rw [hTl] at htc
        rw [hMl] at hmc
        rw [hp] at htk
        have hI := hK.play k T M hT hM
        have hHb := hK.hH
        have hcp := fun (W : World) (hW : Ext wr W) => copy7_any (hI.map.ext hW) (fun b hb => Nat.lt_of_lt_of_le (hHb b hb).2 hW.size) (by have := hall T (List.mem_of_getElem? hT); omega)
        have hlT : (entsT T).length ≤ j := hall T (List.mem_of_getElem? hT)
        have hXw := hX.size
        obtain ⟨tsa, tsc⟩ := ts
        obtain ⟨msa, msc⟩ := ms
        dsimp only at hta htc htm hma hmc hmm
        subst hta hma
        have hk1 : (k : Int) < (j : Int) + 1 := by omega
        have hk0 : (0 : Int) ≤ (k : Int) := by omega
        have HI := Lib.hid hI
        have HP := Lib.hid hp
        have HCP := Lib.hid hcp
        have HHB := Lib.hid hHb
        have HRV := Lib.hid hrv
        have hj80 : (j : Int) ≤ 80 := by omega
        clear hK hall hX hTl hMl haa hT hM hp hI hcp hHb hrv
        rcases hcase with ⟨x, b1, o1, hs1, hf, hf1, hf2, hfc, k1, k2, k3, k4⟩ | ⟨hf, rfl⟩
        · obtain ⟨s1a, s1c⟩ := s1
          dsimp only at hs1 hf1 hf2
          subst hs1
          have g2 : (j : Int) < (fr.length : Int) := by omega
          have gz : (((j : Int) + 1) == 0) = false := beq_eq_false_iff_ne.2 (by omega)
          go_wp2_with fail
          refine (HCP.out wr (Ext.refl wr)).mono ?_
          rintro e w2 ⟨M', rfl, hM', hx2, hmap'⟩
          have hM2 : M' < w2.heap.size := by
            obtain ⟨-, s9, xs9, hb9, -⟩ := hmap'
            exact hb9.lt
          have hz2x := hx2.size
          have hI2 : PlayI (fun b => H b ∨ b = M') M' T w2 := ⟨hmap', (HI.out.tree.agree (hx2.agree fun b hb => hb.1)).mono fun i hi => ⟨Nat.lt_of_lt_of_le hi.1 hx2.size, fun hh => hh.elim hi.2 fun e => by have := hi.1; omega⟩, HI.out.ok⟩
          have hdo := doI (a := a) hI2 (fun b hb => hb.elim (fun hb => Nat.lt_of_lt_of_le (HHB.out b hb).2 hx2.size) fun e => by omega) (by omega) hkm ((HRV.out.agree (hx2.agree fun i (hi : i < w.heap.size) => by omega)).mono fun i (hi : i < w.heap.size) => ⟨by omega, fun hh => by
            rcases hh with hh | hh
            · have := (HHB.out i hh).1; omega
            · omega⟩) HP.out
          have HSS := Lib.hid (show ∀ W, St (fun b => b = M') w2 W → W.cell? ⟨gT, k, none⟩ = some (.pointer p) ∧ W.cell? ⟨b, o + j * 8, none⟩ = some (.int .i64 a.kd) ∧ W.cell? ⟨b, o + j * 8 + 1, none⟩ = some (.string a.k) ∧ W.cell? ⟨b, o + j * 8 + 2, none⟩ = some (.int .i64 a.v.kind) ∧ W.cell? ⟨b, o + j * 8 + 3, none⟩ = some (.bool a.v.b) ∧ W.cell? ⟨b, o + j * 8 + 4, none⟩ = some (.int .i64 a.v.i) ∧ W.cell? ⟨b, o + j * 8 + 5, none⟩ = some (.string a.v.t) ∧ W.cell? ⟨b, o + j * 8 + 6, none⟩ = some (.slice a.sl.a a.v.l.length a.sl.c) ∧ W.cell? ⟨b, o + j * 8 + 7, none⟩ = some (.slice a.so.a a.v.ok.length a.so.c) from
            fun W hW => by
              have e : ∀ g i v, g < wr.heap.size → wr.cell? ⟨g, i, none⟩ = some v → W.cell? ⟨g, i, none⟩ = some v := fun g i v hl hv => (hW.cell (by omega) (by omega)).trans ((hx2.cell hl).trans hv)
              exact ⟨e _ _ _ htl htk, e _ _ _ (by omega) a0, e _ _ _ (by omega) a1, e _ _ _ (by omega) v0, e _ _ _ (by omega) v1, e _ _ _ (by omega) v2, e _ _ _ (by omega) v3, e _ _ _ (by omega) v4, e _ _ _ (by omega) v5⟩)
          have HDO := Lib.hid hdo
          have HX2 := Lib.hid hx2
          have HI2 := Lib.hid hI2
          clear hdo hx2 hI2 hmap' a0 a1 v0 v1 v2 v3 v4 v5 htk hmk
          go_wp2_with fail
          refine wp_region_held_drew (S := (fun w' => St (fun b => b = M') w2 w')) (by kernel_rfl) (((St.refl _ w2).drew)) (fun hHeld => ?_)
          refine held_on (i := 0) (d := (some 55)) (v := ?_) rfl rfl (by kernel_rfl) (by kernel_rfl) (by kernel_rfl) (fun _ _ _ h => h) (by rfl) hHeld ?_ ?_
          rotate_left
          focus (intro w hSw; have hSc := HSS.out w hSw; clear hSw; go_simp; first | done | with_reducible rfl)
          try simp only [Act.put, List.setIfInBounds_toArray, List.set_cons_zero, List.set_cons_succ]
          refine held_on (i := 1) (d := (some 56)) (v := ?_) rfl rfl (by kernel_rfl) (by kernel_rfl) (by kernel_rfl) (fun _ _ _ h => h) (by rfl) hHeld ?_ ?_
          rotate_left
          focus (intro w hSw; have hSc := HSS.out w hSw; clear hSw; go_simp; first | done | with_reducible rfl)
          try simp only [Act.put, List.setIfInBounds_toArray, List.set_cons_zero, List.set_cons_succ]
          refine held_on (i := 2) (d := (some 57)) (v := ?_) rfl rfl (by kernel_rfl) (by kernel_rfl) (by kernel_rfl) (fun _ _ _ h => h) (by rfl) hHeld ?_ ?_
          rotate_left
          focus (intro w hSw; have hSc := HSS.out w hSw; clear hSw; go_simp; first | done | with_reducible rfl)
          try simp only [Act.put, List.setIfInBounds_toArray, List.set_cons_zero, List.set_cons_succ]
          refine held_on (i := 3) (d := (some 58)) (v := ?_) rfl rfl (by kernel_rfl) (by kernel_rfl) (by kernel_rfl) (fun _ _ _ h => h) (by rfl) hHeld ?_ ?_
          rotate_left
          focus (intro w hSw; have hSc := HSS.out w hSw; clear hSw; go_simp; first | done | with_reducible rfl)
          try simp only [Act.put, List.setIfInBounds_toArray, List.set_cons_zero, List.set_cons_succ]
          refine held_on (i := 4) (d := (some 59)) (v := ?_) rfl rfl (by kernel_rfl) (by kernel_rfl) (by kernel_rfl) (fun _ _ _ h => h) (by rfl) hHeld ?_ ?_
          rotate_left
          focus (intro w hSw; have hSc := HSS.out w hSw; clear hSw; go_simp; first | done | with_reducible rfl)
          try simp only [Act.put, List.setIfInBounds_toArray, List.set_cons_zero, List.set_cons_succ]
          refine held_on (i := 5) (d := (some 60)) (v := ?_) rfl rfl (by kernel_rfl) (by kernel_rfl) (by kernel_rfl) (fun _ _ _ h => h) (by rfl) hHeld ?_ ?_
          rotate_left
          focus (intro w hSw; have hSc := HSS.out w hSw; clear hSw; go_simp; first | done | with_reducible rfl)
          try simp only [Act.put, List.setIfInBounds_toArray, List.set_cons_zero, List.set_cons_succ]
          refine held_on (i := 6) (d := (some 61)) (v := ?_) rfl rfl (by kernel_rfl) (by kernel_rfl) (by kernel_rfl) (fun _ _ _ h => h) (by rfl) hHeld ?_ ?_
          rotate_left
          focus (intro w hSw; have hSc := HSS.out w hSw; clear hSw; go_simp; first | done | with_reducible rfl)
          try simp only [Act.put, List.setIfInBounds_toArray, List.set_cons_zero, List.set_cons_succ]
          refine held_on (i := 7) (d := (some 62)) (v := ?_) rfl rfl (by kernel_rfl) (by kernel_rfl) (by kernel_rfl) (fun _ _ _ h => h) (by rfl) hHeld ?_ ?_
          rotate_left
          focus (intro w hSw; have hSc := HSS.out w hSw; clear hSw; go_simp; first | done | with_reducible rfl)
          try simp only [Act.put, List.setIfInBounds_toArray, List.set_cons_zero, List.set_cons_succ]
          refine held_on (i := 8) (d := (some 63)) (v := ?_) rfl rfl (by kernel_rfl) (by kernel_rfl) (by kernel_rfl) (fun _ _ _ h => h) (by rfl) hHeld ?_ ?_
          rotate_left
          focus (intro w hSw; have hSc := HSS.out w hSw; clear hSw; go_simp; first | done | with_reducible rfl)
          try simp only [Act.put, List.setIfInBounds_toArray, List.set_cons_zero, List.set_cons_succ]
          refine held_two (i := 9) (j := 13) (by kernel_rfl) rfl rfl (by rfl) (by rfl) (fun K hK => ?_) (fun K hK => ?_)
          · go_simp
            (refine (HDO.out _ ((Ext.refl w2).drew)).mono ?_; rintro e w3 ⟨T', p', rfl, hp', hst', hI', hs3⟩; have HP' := Lib.hid hp'; have HST' := Lib.hid hst'; have HI' := Lib.hid hI'; clear hp' hst' hI')
            refine hK.out _ _ (hHeld.trans hs3) (fun hHeld => ?_)
            clear hK K
            try simp only [Act.put, List.setIfInBounds_toArray, List.set_cons_zero, List.set_cons_succ]
            refine held_on (i := 10) (d := (some 54)) (v := ?_) rfl rfl (by kernel_rfl) (by kernel_rfl) (by kernel_rfl) (fun _ _ _ h => h) (by rfl) hHeld ?_ ?_
            rotate_left
            focus (intro w hSw; have hSc := HSS.out w hSw; clear hSw; go_simp; first | done | with_reducible rfl)
            try simp only [Act.put, List.setIfInBounds_toArray, List.set_cons_zero, List.set_cons_succ]
            refine held_on (i := 11) (d := (some 65)) (v := ?_) rfl rfl (by kernel_rfl) (by kernel_rfl) (by kernel_rfl) (fun _ _ _ h => h) (by rfl) hHeld ?_ ?_
            rotate_left
            focus (intro w hSw; have hSc := HSS.out w hSw; clear hSw; go_simp; first | done | with_reducible rfl)
            try simp only [Act.put, List.setIfInBounds_toArray, List.set_cons_zero, List.set_cons_succ]
            refine held_on (i := 12) (d := (some 66)) (v := ?_) rfl rfl (by kernel_rfl) (by kernel_rfl) (by kernel_rfl) (fun _ _ _ h => h) (by rfl) hHeld ?_ ?_
            rotate_left
            focus (intro w hSw; have hSc := HSS.out w hSw; clear hSw; go_simp; first | done | with_reducible rfl)
            try simp only [Act.put, List.setIfInBounds_toArray, List.set_cons_zero, List.set_cons_succ]
            refine held_call (i := 13) (by kernel_rfl) rfl (by rfl) (fun K hK => ?_)
            go_simp
            skip
            refine hK.out _ _ (hHeld.alloc _ _) (fun hHeld => ?_)
            clear hK K
            try simp only [Act.put, List.setIfInBounds_toArray, List.set_cons_zero, List.set_cons_succ]
            refine held_call (i := 14) (by kernel_rfl) rfl (by rfl) (fun K hK => ?_)
            go_simp
            (have hsf := hHeld)
            refine hK.out _ _ ((((St.refl _ w2).drew).trans hs3).alloc _ _) (fun hHeld => ?_)
            clear hK K
            try simp only [Act.put, List.setIfInBounds_toArray, List.set_cons_zero, List.set_cons_succ]
            refine held_on (i := 15) (d := (some 11)) (v := ?_) rfl rfl (by kernel_rfl) (by kernel_rfl) (by kernel_rfl) (fun _ _ _ h => h) (by rfl) hHeld ?_ ?_
            rotate_left
            focus (intro w hSw; have hSc := HSS.out w hSw; clear hSw; go_simp; first | done | with_reducible rfl)
            try simp only [Act.put, List.setIfInBounds_toArray, List.set_cons_zero, List.set_cons_succ]
            refine wpAnyH_done (by kernel_rfl) ?_ _
            have hb6 := Blk.new w3 30 #[.pointer p']
            have hx6 : Ext w3 (w3.alloc (.cells #[.pointer p'] 30)) := (Ext.refl w3).alloc _ _
            have hsW : St (fun b => b = M') w2 (w3.alloc (.cells #[.pointer p'] 30)) := (((St.refl _ w2).drew).trans hs3).ext hx6
            have HI6 := Lib.hid (HI'.out.ext hx6)
            clear hx6 hsf hHeld
            generalize w3.alloc (.cells #[.pointer p'] 30) = W6 at *
            have c6 : W6.cell? ⟨_, 0, none⟩ = some (.pointer p') := hb6.cell 0
            have hE6 : Ext wr W6 := HX2.out.step hsW (fun b hb => by omega)
            have hsz6 := hsW.size
            have hTL := HTL.out
            have hML := HML.out
            have hK6 : KeepI w.heap.size (fun b => H b ∨ b = M') ⟨some ⟨gT, 0, none⟩, tsc⟩ ⟨some ⟨gM, 0, none⟩, msc⟩ Ts Ms W6 := HK.out.grow hE6 (fun b hb => .inl hb) (fun b hl hb => hb.elim id fun e => by omega) (fun b hb => by
              rcases hb with hb | hb
              · have := HHB.out b hb; have := hE6.size; omega
              · omega)
            have hI6 : PlayI (fun b => H b ∨ b = M') M' T' W6 := HI6.out.less (fun b hb => .inl hb) (.inr rfl)
            have hlen' : (entsT T').length ≤ j + 1 := by
              rw [HST'.out.ents HI.out.ok]
              have := stepE_len a.kd a.k a.v (entsT T)
              omega
            have hx7 : Ext W6 (W6.alloc (.cells #[.pointer p'] 30)) := (Ext.refl W6).alloc _ _
            have hK7 := hK6.ext hx7
            have hI7 := hI6.ext hx7
            have hrd7 : Rd (W6.alloc (.cells #[.pointer p'] 30)) (fun b => b = W6.heap.size) 1 ⟨some ⟨W6.heap.size, 0, none⟩, 1⟩ 1 [.pointer p'] := Rd.block (Blk.new W6 30 #[.pointer p']) (by decide) rfl
            have hown7 := hK7.tro
            rw [hTL] at hown7
            have hbase7 : w.heap.size ≤ (W6.alloc (.cells #[.pointer p'] 30)).heap.size := by rw [World.size_alloc]; omega
            have HOWN7 := Lib.hid hown7
            have HONE7 := Lib.hid (show ∀ u ∈ [Value.pointer p'], u.oneCell' = true from fun u hu => by obtain rfl := List.mem_singleton.1 hu; rfl)
            have HONE9 := Lib.hid (show ∀ u ∈ [mapP M'], u.oneCell' = true from fun u hu => by obtain rfl := List.mem_singleton.1 hu; rfl)
            have HRD7 := Lib.hid hrd7
            have HK7 := Lib.hid hK7
            have HI7 := Lib.hid hI7
            have HX7 := Lib.hid ((HX.out.trans hE6).trans hx7)
            have h63 : j + 1 + 1 ≤ maxLen := by unfold maxLen; omega
            have hby : (j + 1 + 1) * 8 ≤ 140737488355328 := by omega
            have hMlt : M' < (W6.alloc (.cells #[.pointer p'] 30)).heap.size := by rw [World.size_alloc]; omega
            clear hK6 hI6 hx7 hK7 hI7 hrd7 hown7 hE6 hb6 hsW hs3 hTL hML HDO HSS
            go_upto_region 16 with (at_builtin; refine wpList_append_x _ rfl (.tmp 69) (.tmp 71) 31 rfl w.heap.size 30 i0 _ 1 8 Try.underlying31 hi hz0 hz1 hz2 rfl (by decide) ⟨some ⟨gT, 0, none⟩, tsc⟩ (j + 1) (Ts.map rootV) rfl HOWN7.out (fun b => b = W6.heap.size) ⟨some ⟨W6.heap.size, 0, none⟩, 1⟩ 1 [.pointer p'] rfl HRD7.out HONE7.out h63 hby hbase7 ?_; intro s7 w8 hown8 hwr8 hs8)
            have hneT : (⟨some ⟨gT, 0, none⟩, tsc⟩ : Sl).row ≠ some M' := by simp [Sl.row]; omega
            have hneM : (⟨some ⟨gM, 0, none⟩, msc⟩ : Sl).row ≠ some M' := by simp [Sl.row]; omega
            have hrw8 := row_new (s := ⟨some ⟨gT, 0, none⟩, tsc⟩) (s' := s7) hs8
            have hK8 := HK7.out.pushT (ts' := s7) (T := T') (by rw [HTL.out, HP'.out]; exact hown8) hwr8 hrw8
            have hI8 := HK7.out.carryT hwr8 hrw8 HI7.out hneT
            have hX8 : Ext w w8 := HX7.out.wr hwr8 (fun i hi => by simp [Sl.row] at hi; omega)
            have hneT8 : s7.row ≠ some M' := fun e => by
              rcases hrw8 with h | ⟨c, h, hc⟩
              · rw [h] at e; exact hneT e
              · rw [h] at e; simp at e; omega
            have hx9 : Ext w8 (w8.alloc (.cells #[mapP M'] 80)) := (Ext.refl w8).alloc _ _
            have hK9 := hK8.ext hx9
            have hI9 := hI8.ext hx9
            have hrd9 : Rd (w8.alloc (.cells #[mapP M'] 80)) (fun b => b = w8.heap.size) 1 ⟨some ⟨w8.heap.size, 0, none⟩, 1⟩ 1 [mapP M'] := Rd.block (Blk.new w8 80 #[mapP M']) (by decide) rfl
            have hown9 := hK9.mro
            rw [HML.out] at hown9
            have hws8 := hX8.size
            have hbase9 : w.heap.size ≤ (w8.alloc (.cells #[mapP M'] 80)).heap.size := by rw [World.size_alloc]; omega
            have HOWN9 := Lib.hid hown9
            have HRD9 := Lib.hid hrd9
            have HK9 := Lib.hid hK9
            have HI9 := Lib.hid hI9
            have HX9 := Lib.hid (hX8.trans hx9)
            clear hK8 hI8 hX8 hx9 hK9 hI9 hrd9 hown9 hown8 hwr8 hs8 hrw8
            go_wp2_with (at_builtin; refine wpList_append_x _ rfl (.tmp 73) (.tmp 75) 88 rfl w.heap.size 80 i1 _ 1 8 Try.underlying88 hi' hy0 hy1 hy2 rfl (by decide) ⟨some ⟨gM, 0, none⟩, msc⟩ (j + 1) (Ms.map mapP) rfl HOWN9.out (fun b => b = w8.heap.size) ⟨some ⟨w8.heap.size, 0, none⟩, 1⟩ 1 [mapP M'] rfl HRD9.out HONE9.out h63 hby hbase9 ?_; intro s9 wa hown10 hwr10 hs10)
            have hKa := HK9.out.pushM (ms' := s9) (T := T') (M := M') (by rw [HML.out, List.getElem?_append_right (by rw [HTL.out]; exact Nat.le_refl _), HTL.out, Nat.sub_self]; rfl) HI9.out hneT8 hneM (by rw [HML.out]; exact hown10) hwr10 (row_new (s := ⟨some ⟨gM, 0, none⟩, msc⟩) (s' := s9) hs10)
            have hXa : Ext w wa := HX9.out.wr hwr10 (fun i hi => by simp [Sl.row] at hi; omega)
            have HKA := Lib.hid hKa
            have HXA := Lib.hid hXa
            clear hKa hXa hown10 hwr10 hs10
            go_roundw
            case rel => exact ⟨j + 1, _, s7, s9, Ts ++ [T'], Ms ++ [M'], hlt, by go_num, by rw [List.length_append, HTL.out]; rfl, by rw [List.length_append, HML.out]; rfl, rfl, rfl, HKA.out, fun T2 hT2 => by
              rcases List.mem_append.1 hT2 with h | h
              · exact Nat.le_succ_of_le (HALL.out T2 h)
              · obtain rfl := List.mem_singleton.1 h; exact hlen', HXA.out⟩
            case measure => simp [intOf]; omega
          · go_simp
            skip
            refine hK.out _ _ (hHeld.alloc _ _) (fun hHeld => ?_)
            clear hK K
            try simp only [Act.put, List.setIfInBounds_toArray, List.set_cons_zero, List.set_cons_succ]
            refine held_call (i := 9) (by kernel_rfl) rfl (by rfl) (fun K hK => ?_)
            go_simp
            (refine (HDO.out _ (((Ext.refl w2).drew).alloc _ _)).mono ?_; rintro e w3 ⟨T', p', rfl, hp', hst', hI', hs3⟩; have HP' := Lib.hid hp'; have HST' := Lib.hid hst'; have HI' := Lib.hid hI'; clear hp' hst' hI'; have hb6 : Blk w3 w2.heap.size 30 #[.pointer none] := hs3.blk (Blk.new w2.drew 30 #[.pointer none]) (show ¬ w2.heap.size = M' by omega); have c6 : w3.cell? ⟨w2.heap.size, 0, none⟩ = some (.pointer none) := hb6.cell 0; have f6 := hb6.frozen 0; have l6 := hb6.lt)
            refine hK.out _ _ (hHeld.trans hs3) (fun hHeld => ?_)
            clear hK K
            try simp only [Act.put, List.setIfInBounds_toArray, List.set_cons_zero, List.set_cons_succ]
            refine held_on (i := 10) (d := (some 54)) (v := ?_) rfl rfl (by kernel_rfl) (by kernel_rfl) (by kernel_rfl) (fun _ _ _ h => h) (by rfl) hHeld ?_ ?_
            rotate_left
            focus (intro w hSw; have hSc := HSS.out w hSw; clear hSw; go_simp; first | done | with_reducible rfl)
            try simp only [Act.put, List.setIfInBounds_toArray, List.set_cons_zero, List.set_cons_succ]
            refine held_on (i := 11) (d := (some 65)) (v := ?_) rfl rfl (by kernel_rfl) (by kernel_rfl) (by kernel_rfl) (fun _ _ _ h => h) (by rfl) hHeld ?_ ?_
            rotate_left
            focus (intro w hSw; have hSc := HSS.out w hSw; clear hSw; go_simp; first | done | with_reducible rfl)
            try simp only [Act.put, List.setIfInBounds_toArray, List.set_cons_zero, List.set_cons_succ]
            refine held_on (i := 12) (d := (some 66)) (v := ?_) rfl rfl (by kernel_rfl) (by kernel_rfl) (by kernel_rfl) (fun _ _ _ h => h) (by rfl) hHeld ?_ ?_
            rotate_left
            focus (intro w hSw; have hSc := HSS.out w hSw; clear hSw; go_simp; first | done | with_reducible rfl)
            try simp only [Act.put, List.setIfInBounds_toArray, List.set_cons_zero, List.set_cons_succ]
            refine held_call (i := 14) (by kernel_rfl) rfl (by rfl) (fun K hK => ?_)
            go_simp
            skip
            refine hK.out _ _ (hHeld.set (p := ⟨w2.heap.size, 0, none⟩) (.inl (Nat.le_refl _)) _) (fun hHeld => ?_)
            clear hK K
            try simp only [Act.put, List.setIfInBounds_toArray, List.set_cons_zero, List.set_cons_succ]
            refine held_on (i := 15) (d := (some 11)) (v := ?_) rfl rfl (by kernel_rfl) (by kernel_rfl) (by kernel_rfl) (fun _ _ _ h => h) (by rfl) hHeld ?_ ?_
            rotate_left
            focus (intro w hSw; have hSc := HSS.out w hSw; clear hSw; go_simp; first | done | with_reducible rfl)
            try simp only [Act.put, List.setIfInBounds_toArray, List.set_cons_zero, List.set_cons_succ]
            refine wpAnyH_done (by kernel_rfl) ?_ _
            have hset6 : St (fun b => b = w2.heap.size) w3 (w3.setCell ⟨w2.heap.size, 0, none⟩ (.pointer p')) := (St.refl (fun b => b = w2.heap.size) w3).set (p := ⟨w2.heap.size, 0, none⟩) (.inr rfl) _
            have hsW : St (fun b => b = M') w2 (w3.setCell ⟨w2.heap.size, 0, none⟩ (.pointer p')) := hHeld
            replace hb6 : Blk (w3.setCell ⟨w2.heap.size, 0, none⟩ (.pointer p')) w2.heap.size 30 #[.pointer p'] := hb6.set_ 0 _
            have HI6 := Lib.hid (HI'.out.st hset6 (fun b hb => .inr ⟨by omega, by simp; omega⟩) (by omega))
            clear hset6 c6 f6 l6 hHeld
            generalize w3.setCell ⟨w2.heap.size, 0, none⟩ (.pointer p') = W6 at *
            have c6 : W6.cell? ⟨_, 0, none⟩ = some (.pointer p') := hb6.cell 0
            have hE6 : Ext wr W6 := HX2.out.step hsW (fun b hb => by omega)
            have hsz6 := hsW.size
            have hTL := HTL.out
            have hML := HML.out
            have hK6 : KeepI w.heap.size (fun b => H b ∨ b = M') ⟨some ⟨gT, 0, none⟩, tsc⟩ ⟨some ⟨gM, 0, none⟩, msc⟩ Ts Ms W6 := HK.out.grow hE6 (fun b hb => .inl hb) (fun b hl hb => hb.elim id fun e => by omega) (fun b hb => by
              rcases hb with hb | hb
              · have := HHB.out b hb; have := hE6.size; omega
              · omega)
            have hI6 : PlayI (fun b => H b ∨ b = M') M' T' W6 := HI6.out.less (fun b hb => .inl hb) (.inr rfl)
            have hlen' : (entsT T').length ≤ j + 1 := by
              rw [HST'.out.ents HI.out.ok]
              have := stepE_len a.kd a.k a.v (entsT T)
              omega
            have hx7 : Ext W6 (W6.alloc (.cells #[.pointer p'] 30)) := (Ext.refl W6).alloc _ _
            have hK7 := hK6.ext hx7
            have hI7 := hI6.ext hx7
            have hrd7 : Rd (W6.alloc (.cells #[.pointer p'] 30)) (fun b => b = W6.heap.size) 1 ⟨some ⟨W6.heap.size, 0, none⟩, 1⟩ 1 [.pointer p'] := Rd.block (Blk.new W6 30 #[.pointer p']) (by decide) rfl
            have hown7 := hK7.tro
            rw [hTL] at hown7
            have hbase7 : w.heap.size ≤ (W6.alloc (.cells #[.pointer p'] 30)).heap.size := by rw [World.size_alloc]; omega
            have HOWN7 := Lib.hid hown7
            have HONE7 := Lib.hid (show ∀ u ∈ [Value.pointer p'], u.oneCell' = true from fun u hu => by obtain rfl := List.mem_singleton.1 hu; rfl)
            have HONE9 := Lib.hid (show ∀ u ∈ [mapP M'], u.oneCell' = true from fun u hu => by obtain rfl := List.mem_singleton.1 hu; rfl)
            have HRD7 := Lib.hid hrd7
            have HK7 := Lib.hid hK7
            have HI7 := Lib.hid hI7
            have HX7 := Lib.hid ((HX.out.trans hE6).trans hx7)
            have h63 : j + 1 + 1 ≤ maxLen := by unfold maxLen; omega
            have hby : (j + 1 + 1) * 8 ≤ 140737488355328 := by omega
            have hMlt : M' < (W6.alloc (.cells #[.pointer p'] 30)).heap.size := by rw [World.size_alloc]; omega
            clear hK6 hI6 hx7 hK7 hI7 hrd7 hown7 hE6 hb6 hsW hs3 hTL hML HDO HSS
            go_upto_region 16 with (at_builtin; refine wpList_append_x _ rfl (.tmp 69) (.tmp 71) 31 rfl w.heap.size 30 i0 _ 1 8 Try.underlying31 hi hz0 hz1 hz2 rfl (by decide) ⟨some ⟨gT, 0, none⟩, tsc⟩ (j + 1) (Ts.map rootV) rfl HOWN7.out (fun b => b = W6.heap.size) ⟨some ⟨W6.heap.size, 0, none⟩, 1⟩ 1 [.pointer p'] rfl HRD7.out HONE7.out h63 hby hbase7 ?_; intro s7 w8 hown8 hwr8 hs8)
            have hneT : (⟨some ⟨gT, 0, none⟩, tsc⟩ : Sl).row ≠ some M' := by simp [Sl.row]; omega
            have hneM : (⟨some ⟨gM, 0, none⟩, msc⟩ : Sl).row ≠ some M' := by simp [Sl.row]; omega
            have hrw8 := row_new (s := ⟨some ⟨gT, 0, none⟩, tsc⟩) (s' := s7) hs8
            have hK8 := HK7.out.pushT (ts' := s7) (T := T') (by rw [HTL.out, HP'.out]; exact hown8) hwr8 hrw8
            have hI8 := HK7.out.carryT hwr8 hrw8 HI7.out hneT
            have hX8 : Ext w w8 := HX7.out.wr hwr8 (fun i hi => by simp [Sl.row] at hi; omega)
            have hneT8 : s7.row ≠ some M' := fun e => by
              rcases hrw8 with h | ⟨c, h, hc⟩
              · rw [h] at e; exact hneT e
              · rw [h] at e; simp at e; omega
            have hx9 : Ext w8 (w8.alloc (.cells #[mapP M'] 80)) := (Ext.refl w8).alloc _ _
            have hK9 := hK8.ext hx9
            have hI9 := hI8.ext hx9
            have hrd9 : Rd (w8.alloc (.cells #[mapP M'] 80)) (fun b => b = w8.heap.size) 1 ⟨some ⟨w8.heap.size, 0, none⟩, 1⟩ 1 [mapP M'] := Rd.block (Blk.new w8 80 #[mapP M']) (by decide) rfl
            have hown9 := hK9.mro
            rw [HML.out] at hown9
            have hws8 := hX8.size
            have hbase9 : w.heap.size ≤ (w8.alloc (.cells #[mapP M'] 80)).heap.size := by rw [World.size_alloc]; omega
            have HOWN9 := Lib.hid hown9
            have HRD9 := Lib.hid hrd9
            have HK9 := Lib.hid hK9
            have HI9 := Lib.hid hI9
            have HX9 := Lib.hid (hX8.trans hx9)
            clear hK8 hI8 hX8 hx9 hK9 hI9 hrd9 hown9 hown8 hwr8 hs8 hrw8
            go_wp2_with (at_builtin; refine wpList_append_x _ rfl (.tmp 73) (.tmp 75) 88 rfl w.heap.size 80 i1 _ 1 8 Try.underlying88 hi' hy0 hy1 hy2 rfl (by decide) ⟨some ⟨gM, 0, none⟩, msc⟩ (j + 1) (Ms.map mapP) rfl HOWN9.out (fun b => b = w8.heap.size) ⟨some ⟨w8.heap.size, 0, none⟩, 1⟩ 1 [mapP M'] rfl HRD9.out HONE9.out h63 hby hbase9 ?_; intro s9 wa hown10 hwr10 hs10)
            have hKa := HK9.out.pushM (ms' := s9) (T := T') (M := M') (by rw [HML.out, List.getElem?_append_right (by rw [HTL.out]; exact Nat.le_refl _), HTL.out, Nat.sub_self]; rfl) HI9.out hneT8 hneM (by rw [HML.out]; exact hown10) hwr10 (row_new (s := ⟨some ⟨gM, 0, none⟩, msc⟩) (s' := s9) hs10)
            have hXa : Ext w wa := HX9.out.wr hwr10 (fun i hi => by simp [Sl.row] at hi; omega)
            have HKA := Lib.hid hKa
            have HXA := Lib.hid hXa
            clear hKa hXa hown10 hwr10 hs10
            go_roundw
            case rel => exact ⟨j + 1, _, s7, s9, Ts ++ [T'], Ms ++ [M'], hlt, by go_num, by rw [List.length_append, HTL.out]; rfl, by rw [List.length_append, HML.out]; rfl, rfl, rfl, HKA.out, fun T2 hT2 => by
              rcases List.mem_append.1 hT2 with h | h
              · exact Nat.le_succ_of_le (HALL.out T2 h)
              · obtain rfl := List.mem_singleton.1 h; exact hlen', HXA.out⟩
            case measure => simp [intOf]; omega
        · have g2 : ¬ (j : Int) < (fr.length : Int) := by omega
          go_wp2_with fail
          refine (HCP.out wr (Ext.refl wr)).mono ?_
          rintro e w2 ⟨M', rfl, hM', hx2, hmap'⟩
          have hM2 : M' < w2.heap.size := by
            obtain ⟨-, s9, xs9, hb9, -⟩ := hmap'
            exact hb9.lt
          have hz2x := hx2.size
          have hI2 : PlayI (fun b => H b ∨ b = M') M' T w2 := ⟨hmap', (HI.out.tree.agree (hx2.agree fun b hb => hb.1)).mono fun i hi => ⟨Nat.lt_of_lt_of_le hi.1 hx2.size, fun hh => hh.elim hi.2 fun e => by have := hi.1; omega⟩, HI.out.ok⟩
          have hdo := doI (a := a) hI2 (fun b hb => hb.elim (fun hb => Nat.lt_of_lt_of_le (HHB.out b hb).2 hx2.size) fun e => by omega) (by omega) hkm ((HRV.out.agree (hx2.agree fun i (hi : i < w.heap.size) => by omega)).mono fun i (hi : i < w.heap.size) => ⟨by omega, fun hh => by
            rcases hh with hh | hh
            · have := (HHB.out i hh).1; omega
            · omega⟩) HP.out
          have HSS := Lib.hid (show ∀ W, St (fun b => b = M') w2 W → W.cell? ⟨gT, j, none⟩ = some (.pointer p) ∧ W.cell? ⟨b, o + j * 8, none⟩ = some (.int .i64 a.kd) ∧ W.cell? ⟨b, o + j * 8 + 1, none⟩ = some (.string a.k) ∧ W.cell? ⟨b, o + j * 8 + 2, none⟩ = some (.int .i64 a.v.kind) ∧ W.cell? ⟨b, o + j * 8 + 3, none⟩ = some (.bool a.v.b) ∧ W.cell? ⟨b, o + j * 8 + 4, none⟩ = some (.int .i64 a.v.i) ∧ W.cell? ⟨b, o + j * 8 + 5, none⟩ = some (.string a.v.t) ∧ W.cell? ⟨b, o + j * 8 + 6, none⟩ = some (.slice a.sl.a a.v.l.length a.sl.c) ∧ W.cell? ⟨b, o + j * 8 + 7, none⟩ = some (.slice a.so.a a.v.ok.length a.so.c) from
            fun W hW => by
              have e : ∀ g i v, g < wr.heap.size → wr.cell? ⟨g, i, none⟩ = some v → W.cell? ⟨g, i, none⟩ = some v := fun g i v hl hv => (hW.cell (by omega) (by omega)).trans ((hx2.cell hl).trans hv)
              exact ⟨e _ _ _ htl htk, e _ _ _ (by omega) a0, e _ _ _ (by omega) a1, e _ _ _ (by omega) v0, e _ _ _ (by omega) v1, e _ _ _ (by omega) v2, e _ _ _ (by omega) v3, e _ _ _ (by omega) v4, e _ _ _ (by omega) v5⟩)
          have HDO := Lib.hid hdo
          have HX2 := Lib.hid hx2
          have HI2 := Lib.hid hI2
          clear hdo hx2 hI2 hmap' a0 a1 v0 v1 v2 v3 v4 v5 htk hmk
          go_wp2_with fail
          refine wp_region_held_drew (S := (fun w' => St (fun b => b = M') w2 w')) (by kernel_rfl) (((St.refl _ w2).drew)) (fun hHeld => ?_)
          refine held_on (i := 0) (d := (some 55)) (v := ?_) rfl rfl (by kernel_rfl) (by kernel_rfl) (by kernel_rfl) (fun _ _ _ h => h) (by rfl) hHeld ?_ ?_
          rotate_left
          focus (intro w hSw; have hSc := HSS.out w hSw; clear hSw; go_simp; first | done | with_reducible rfl)
          try simp only [Act.put, List.setIfInBounds_toArray, List.set_cons_zero, List.set_cons_succ]
          refine held_on (i := 1) (d := (some 56)) (v := ?_) rfl rfl (by kernel_rfl) (by kernel_rfl) (by kernel_rfl) (fun _ _ _ h => h) (by rfl) hHeld ?_ ?_
          rotate_left
          focus (intro w hSw; have hSc := HSS.out w hSw; clear hSw; go_simp; first | done | with_reducible rfl)
          try simp only [Act.put, List.setIfInBounds_toArray, List.set_cons_zero, List.set_cons_succ]
          refine held_on (i := 2) (d := (some 57)) (v := ?_) rfl rfl (by kernel_rfl) (by kernel_rfl) (by kernel_rfl) (fun _ _ _ h => h) (by rfl) hHeld ?_ ?_
          rotate_left
          focus (intro w hSw; have hSc := HSS.out w hSw; clear hSw; go_simp; first | done | with_reducible rfl)
          try simp only [Act.put, List.setIfInBounds_toArray, List.set_cons_zero, List.set_cons_succ]
          refine held_on (i := 3) (d := (some 58)) (v := ?_) rfl rfl (by kernel_rfl) (by kernel_rfl) (by kernel_rfl) (fun _ _ _ h => h) (by rfl) hHeld ?_ ?_
          rotate_left
          focus (intro w hSw; have hSc := HSS.out w hSw; clear hSw; go_simp; first | done | with_reducible rfl)
          try simp only [Act.put, List.setIfInBounds_toArray, List.set_cons_zero, List.set_cons_succ]
          refine held_on (i := 4) (d := (some 59)) (v := ?_) rfl rfl (by kernel_rfl) (by kernel_rfl) (by kernel_rfl) (fun _ _ _ h => h) (by rfl) hHeld ?_ ?_
          rotate_left
          focus (intro w hSw; have hSc := HSS.out w hSw; clear hSw; go_simp; first | done | with_reducible rfl)
          try simp only [Act.put, List.setIfInBounds_toArray, List.set_cons_zero, List.set_cons_succ]
          refine held_on (i := 5) (d := (some 60)) (v := ?_) rfl rfl (by kernel_rfl) (by kernel_rfl) (by kernel_rfl) (fun _ _ _ h => h) (by rfl) hHeld ?_ ?_
          rotate_left
          focus (intro w hSw; have hSc := HSS.out w hSw; clear hSw; go_simp; first | done | with_reducible rfl)
          try simp only [Act.put, List.setIfInBounds_toArray, List.set_cons_zero, List.set_cons_succ]
          refine held_on (i := 6) (d := (some 61)) (v := ?_) rfl rfl (by kernel_rfl) (by kernel_rfl) (by kernel_rfl) (fun _ _ _ h => h) (by rfl) hHeld ?_ ?_
          rotate_left
          focus (intro w hSw; have hSc := HSS.out w hSw; clear hSw; go_simp; first | done | with_reducible rfl)
          try simp only [Act.put, List.setIfInBounds_toArray, List.set_cons_zero, List.set_cons_succ]
          refine held_on (i := 7) (d := (some 62)) (v := ?_) rfl rfl (by kernel_rfl) (by kernel_rfl) (by kernel_rfl) (fun _ _ _ h => h) (by rfl) hHeld ?_ ?_
          rotate_left
          focus (intro w hSw; have hSc := HSS.out w hSw; clear hSw; go_simp; first | done | with_reducible rfl)
          try simp only [Act.put, List.setIfInBounds_toArray, List.set_cons_zero, List.set_cons_succ]
          refine held_on (i := 8) (d := (some 63)) (v := ?_) rfl rfl (by kernel_rfl) (by kernel_rfl) (by kernel_rfl) (fun _ _ _ h => h) (by rfl) hHeld ?_ ?_
          rotate_left
          focus (intro w hSw; have hSc := HSS.out w hSw; clear hSw; go_simp; first | done | with_reducible rfl)
          try simp only [Act.put, List.setIfInBounds_toArray, List.set_cons_zero, List.set_cons_succ]
          refine held_two (i := 9) (j := 13) (by kernel_rfl) rfl rfl (by rfl) (by rfl) (fun K hK => ?_) (fun K hK => ?_)
          · go_simp
            (refine (HDO.out _ ((Ext.refl w2).drew)).mono ?_; rintro e w3 ⟨T', p', rfl, hp', hst', hI', hs3⟩; have HP' := Lib.hid hp'; have HST' := Lib.hid hst'; have HI' := Lib.hid hI'; clear hp' hst' hI')
            refine hK.out _ _ (hHeld.trans hs3) (fun hHeld => ?_)
            clear hK K
            try simp only [Act.put, List.setIfInBounds_toArray, List.set_cons_zero, List.set_cons_succ]
            refine held_on (i := 10) (d := (some 54)) (v := ?_) rfl rfl (by kernel_rfl) (by kernel_rfl) (by kernel_rfl) (fun _ _ _ h => h) (by rfl) hHeld ?_ ?_
            rotate_left
            focus (intro w hSw; have hSc := HSS.out w hSw; clear hSw; go_simp; first | done | with_reducible rfl)
            try simp only [Act.put, List.setIfInBounds_toArray, List.set_cons_zero, List.set_cons_succ]
            refine held_on (i := 11) (d := (some 65)) (v := ?_) rfl rfl (by kernel_rfl) (by kernel_rfl) (by kernel_rfl) (fun _ _ _ h => h) (by rfl) hHeld ?_ ?_
            rotate_left
            focus (intro w hSw; have hSc := HSS.out w hSw; clear hSw; go_simp; first | done | with_reducible rfl)
            try simp only [Act.put, List.setIfInBounds_toArray, List.set_cons_zero, List.set_cons_succ]
            refine held_on (i := 12) (d := (some 66)) (v := ?_) rfl rfl (by kernel_rfl) (by kernel_rfl) (by kernel_rfl) (fun _ _ _ h => h) (by rfl) hHeld ?_ ?_
            rotate_left
            focus (intro w hSw; have hSc := HSS.out w hSw; clear hSw; go_simp; first | done | with_reducible rfl)
            try simp only [Act.put, List.setIfInBounds_toArray, List.set_cons_zero, List.set_cons_succ]
            refine held_call (i := 13) (by kernel_rfl) rfl (by rfl) (fun K hK => ?_)
            go_simp
            skip
            refine hK.out _ _ (hHeld.alloc _ _) (fun hHeld => ?_)
            clear hK K
            try simp only [Act.put, List.setIfInBounds_toArray, List.set_cons_zero, List.set_cons_succ]
            refine held_call (i := 14) (by kernel_rfl) rfl (by rfl) (fun K hK => ?_)
            go_simp
            (have hsf := hHeld)
            refine hK.out _ _ ((((St.refl _ w2).drew).trans hs3).alloc _ _) (fun hHeld => ?_)
            clear hK K
            try simp only [Act.put, List.setIfInBounds_toArray, List.set_cons_zero, List.set_cons_succ]
            refine held_on (i := 15) (d := (some 11)) (v := ?_) rfl rfl (by kernel_rfl) (by kernel_rfl) (by kernel_rfl) (fun _ _ _ h => h) (by rfl) hHeld ?_ ?_
            rotate_left
            focus (intro w hSw; have hSc := HSS.out w hSw; clear hSw; go_simp; first | done | with_reducible rfl)
            try simp only [Act.put, List.setIfInBounds_toArray, List.set_cons_zero, List.set_cons_succ]
            refine wpAnyH_done (by kernel_rfl) ?_ _
            have hb6 := Blk.new w3 30 #[.pointer p']
            have hx6 : Ext w3 (w3.alloc (.cells #[.pointer p'] 30)) := (Ext.refl w3).alloc _ _
            have hsW : St (fun b => b = M') w2 (w3.alloc (.cells #[.pointer p'] 30)) := (((St.refl _ w2).drew).trans hs3).ext hx6
            have HI6 := Lib.hid (HI'.out.ext hx6)
            clear hx6 hsf hHeld
            generalize w3.alloc (.cells #[.pointer p'] 30) = W6 at *
            have c6 : W6.cell? ⟨_, 0, none⟩ = some (.pointer p') := hb6.cell 0
            have hE6 : Ext wr W6 := HX2.out.step hsW (fun b hb => by omega)
            have hsz6 := hsW.size
            have hTL := HTL.out
            have hML := HML.out
            have hK6 : KeepI w.heap.size (fun b => H b ∨ b = M') ⟨some ⟨gT, 0, none⟩, tsc⟩ ⟨some ⟨gM, 0, none⟩, msc⟩ Ts Ms W6 := HK.out.grow hE6 (fun b hb => .inl hb) (fun b hl hb => hb.elim id fun e => by omega) (fun b hb => by
              rcases hb with hb | hb
              · have := HHB.out b hb; have := hE6.size; omega
              · omega)
            have hI6 : PlayI (fun b => H b ∨ b = M') M' T' W6 := HI6.out.less (fun b hb => .inl hb) (.inr rfl)
            have hlen' : (entsT T').length ≤ j + 1 := by
              rw [HST'.out.ents HI.out.ok]
              have := stepE_len a.kd a.k a.v (entsT T)
              omega
            have hx7 : Ext W6 (W6.alloc (.cells #[.pointer p'] 30)) := (Ext.refl W6).alloc _ _
            have hK7 := hK6.ext hx7
            have hI7 := hI6.ext hx7
            have hrd7 : Rd (W6.alloc (.cells #[.pointer p'] 30)) (fun b => b = W6.heap.size) 1 ⟨some ⟨W6.heap.size, 0, none⟩, 1⟩ 1 [.pointer p'] := Rd.block (Blk.new W6 30 #[.pointer p']) (by decide) rfl
            have hown7 := hK7.tro
            rw [hTL] at hown7
            have hbase7 : w.heap.size ≤ (W6.alloc (.cells #[.pointer p'] 30)).heap.size := by rw [World.size_alloc]; omega
            have HOWN7 := Lib.hid hown7
            have HONE7 := Lib.hid (show ∀ u ∈ [Value.pointer p'], u.oneCell' = true from fun u hu => by obtain rfl := List.mem_singleton.1 hu; rfl)
            have HONE9 := Lib.hid (show ∀ u ∈ [mapP M'], u.oneCell' = true from fun u hu => by obtain rfl := List.mem_singleton.1 hu; rfl)
            have HRD7 := Lib.hid hrd7
            have HK7 := Lib.hid hK7
            have HI7 := Lib.hid hI7
            have HX7 := Lib.hid ((HX.out.trans hE6).trans hx7)
            have h63 : j + 1 + 1 ≤ maxLen := by unfold maxLen; omega
            have hby : (j + 1 + 1) * 8 ≤ 140737488355328 := by omega
            have hMlt : M' < (W6.alloc (.cells #[.pointer p'] 30)).heap.size := by rw [World.size_alloc]; omega
            clear hK6 hI6 hx7 hK7 hI7 hrd7 hown7 hE6 hb6 hsW hs3 hTL hML HDO HSS
            go_upto_region 16 with (at_builtin; refine wpList_append_x _ rfl (.tmp 69) (.tmp 71) 31 rfl w.heap.size 30 i0 _ 1 8 Try.underlying31 hi hz0 hz1 hz2 rfl (by decide) ⟨some ⟨gT, 0, none⟩, tsc⟩ (j + 1) (Ts.map rootV) rfl HOWN7.out (fun b => b = W6.heap.size) ⟨some ⟨W6.heap.size, 0, none⟩, 1⟩ 1 [.pointer p'] rfl HRD7.out HONE7.out h63 hby hbase7 ?_; intro s7 w8 hown8 hwr8 hs8)
            have hneT : (⟨some ⟨gT, 0, none⟩, tsc⟩ : Sl).row ≠ some M' := by simp [Sl.row]; omega
            have hneM : (⟨some ⟨gM, 0, none⟩, msc⟩ : Sl).row ≠ some M' := by simp [Sl.row]; omega
            have hrw8 := row_new (s := ⟨some ⟨gT, 0, none⟩, tsc⟩) (s' := s7) hs8
            have hK8 := HK7.out.pushT (ts' := s7) (T := T') (by rw [HTL.out, HP'.out]; exact hown8) hwr8 hrw8
            have hI8 := HK7.out.carryT hwr8 hrw8 HI7.out hneT
            have hX8 : Ext w w8 := HX7.out.wr hwr8 (fun i hi => by simp [Sl.row] at hi; omega)
            have hneT8 : s7.row ≠ some M' := fun e => by
              rcases hrw8 with h | ⟨c, h, hc⟩
              · rw [h] at e; exact hneT e
              · rw [h] at e; simp at e; omega
            have hx9 : Ext w8 (w8.alloc (.cells #[mapP M'] 80)) := (Ext.refl w8).alloc _ _
            have hK9 := hK8.ext hx9
            have hI9 := hI8.ext hx9
            have hrd9 : Rd (w8.alloc (.cells #[mapP M'] 80)) (fun b => b = w8.heap.size) 1 ⟨some ⟨w8.heap.size, 0, none⟩, 1⟩ 1 [mapP M'] := Rd.block (Blk.new w8 80 #[mapP M']) (by decide) rfl
            have hown9 := hK9.mro
            rw [HML.out] at hown9
            have hws8 := hX8.size
            have hbase9 : w.heap.size ≤ (w8.alloc (.cells #[mapP M'] 80)).heap.size := by rw [World.size_alloc]; omega
            have HOWN9 := Lib.hid hown9
            have HRD9 := Lib.hid hrd9
            have HK9 := Lib.hid hK9
            have HI9 := Lib.hid hI9
            have HX9 := Lib.hid (hX8.trans hx9)
            clear hK8 hI8 hX8 hx9 hK9 hI9 hrd9 hown9 hown8 hwr8 hs8 hrw8
            go_wp2_with (at_builtin; refine wpList_append_x _ rfl (.tmp 73) (.tmp 75) 88 rfl w.heap.size 80 i1 _ 1 8 Try.underlying88 hi' hy0 hy1 hy2 rfl (by decide) ⟨some ⟨gM, 0, none⟩, msc⟩ (j + 1) (Ms.map mapP) rfl HOWN9.out (fun b => b = w8.heap.size) ⟨some ⟨w8.heap.size, 0, none⟩, 1⟩ 1 [mapP M'] rfl HRD9.out HONE9.out h63 hby hbase9 ?_; intro s9 wa hown10 hwr10 hs10)
            have hKa := HK9.out.pushM (ms' := s9) (T := T') (M := M') (by rw [HML.out, List.getElem?_append_right (by rw [HTL.out]; exact Nat.le_refl _), HTL.out, Nat.sub_self]; rfl) HI9.out hneT8 hneM (by rw [HML.out]; exact hown10) hwr10 (row_new (s := ⟨some ⟨gM, 0, none⟩, msc⟩) (s' := s9) hs10)
            have hXa : Ext w wa := HX9.out.wr hwr10 (fun i hi => by simp [Sl.row] at hi; omega)
            have HKA := Lib.hid hKa
            have HXA := Lib.hid hXa
            clear hKa hXa hown10 hwr10 hs10
            go_roundw
            case rel => exact ⟨j + 1, _, s7, s9, Ts ++ [T'], Ms ++ [M'], hlt, by go_num, by rw [List.length_append, HTL.out]; rfl, by rw [List.length_append, HML.out]; rfl, rfl, rfl, HKA.out, fun T2 hT2 => by
              rcases List.mem_append.1 hT2 with h | h
              · exact Nat.le_succ_of_le (HALL.out T2 h)
              · obtain rfl := List.mem_singleton.1 h; exact hlen', HXA.out⟩
            case measure => simp [intOf]; omega
          · go_simp
            skip
            refine hK.out _ _ (hHeld.alloc _ _) (fun hHeld => ?_)
            clear hK K
            try simp only [Act.put, List.setIfInBounds_toArray, List.set_cons_zero, List.set_cons_succ]
            refine held_call (i := 9) (by kernel_rfl) rfl (by rfl) (fun K hK => ?_)
            go_simp
            (refine (HDO.out _ (((Ext.refl w2).drew).alloc _ _)).mono ?_; rintro e w3 ⟨T', p', rfl, hp', hst', hI', hs3⟩; have HP' := Lib.hid hp'; have HST' := Lib.hid hst'; have HI' := Lib.hid hI'; clear hp' hst' hI'; have hb6 : Blk w3 w2.heap.size 30 #[.pointer none] := hs3.blk (Blk.new w2.drew 30 #[.pointer none]) (show ¬ w2.heap.size = M' by omega); have c6 : w3.cell? ⟨w2.heap.size, 0, none⟩ = some (.pointer none) := hb6.cell 0; have f6 := hb6.frozen 0; have l6 := hb6.lt)
            refine hK.out _ _ (hHeld.trans hs3) (fun hHeld => ?_)
            clear hK K
            try simp only [Act.put, List.setIfInBounds_toArray, List.set_cons_zero, List.set_cons_succ]
            refine held_on (i := 10) (d := (some 54)) (v := ?_) rfl rfl (by kernel_rfl) (by kernel_rfl) (by kernel_rfl) (fun _ _ _ h => h) (by rfl) hHeld ?_ ?_
            rotate_left
            focus (intro w hSw; have hSc := HSS.out w hSw; clear hSw; go_simp; first | done | with_reducible rfl)
            try simp only [Act.put, List.setIfInBounds_toArray, List.set_cons_zero, List.set_cons_succ]
            refine held_on (i := 11) (d := (some 65)) (v := ?_) rfl rfl (by kernel_rfl) (by kernel_rfl) (by kernel_rfl) (fun _ _ _ h => h) (by rfl) hHeld ?_ ?_
            rotate_left
            focus (intro w hSw; have hSc := HSS.out w hSw; clear hSw; go_simp; first | done | with_reducible rfl)
            try simp only [Act.put, List.setIfInBounds_toArray, List.set_cons_zero, List.set_cons_succ]
            refine held_on (i := 12) (d := (some 66)) (v := ?_) rfl rfl (by kernel_rfl) (by kernel_rfl) (by kernel_rfl) (fun _ _ _ h => h) (by rfl) hHeld ?_ ?_
            rotate_left
            focus (intro w hSw; have hSc := HSS.out w hSw; clear hSw; go_simp; first | done | with_reducible rfl)
            try simp only [Act.put, List.setIfInBounds_toArray, List.set_cons_zero, List.set_cons_succ]
            refine held_call (i := 14) (by kernel_rfl) rfl (by rfl) (fun K hK => ?_)
            go_simp
            skip
            refine hK.out _ _ (hHeld.set (p := ⟨w2.heap.size, 0, none⟩) (.inl (Nat.le_refl _)) _) (fun hHeld => ?_)
            clear hK K
            try simp only [Act.put, List.setIfInBounds_toArray, List.set_cons_zero, List.set_cons_succ]
            refine held_on (i := 15) (d := (some 11)) (v := ?_) rfl rfl (by kernel_rfl) (by kernel_rfl) (by kernel_rfl) (fun _ _ _ h => h) (by rfl) hHeld ?_ ?_
            rotate_left
            focus (intro w hSw; have hSc := HSS.out w hSw; clear hSw; go_simp; first | done | with_reducible rfl)
            try simp only [Act.put, List.setIfInBounds_toArray, List.set_cons_zero, List.set_cons_succ]
            refine wpAnyH_done (by kernel_rfl) ?_ _
            have hset6 : St (fun b => b = w2.heap.size) w3 (w3.setCell ⟨w2.heap.size, 0, none⟩ (.pointer p')) := (St.refl (fun b => b = w2.heap.size) w3).set (p := ⟨w2.heap.size, 0, none⟩) (.inr rfl) _
            have hsW : St (fun b => b = M') w2 (w3.setCell ⟨w2.heap.size, 0, none⟩ (.pointer p')) := hHeld
            replace hb6 : Blk (w3.setCell ⟨w2.heap.size, 0, none⟩ (.pointer p')) w2.heap.size 30 #[.pointer p'] := hb6.set_ 0 _
            have HI6 := Lib.hid (HI'.out.st hset6 (fun b hb => .inr ⟨by omega, by simp; omega⟩) (by omega))
            clear hset6 c6 f6 l6 hHeld
            generalize w3.setCell ⟨w2.heap.size, 0, none⟩ (.pointer p') = W6 at *
            have c6 : W6.cell? ⟨_, 0, none⟩ = some (.pointer p') := hb6.cell 0
            have hE6 : Ext wr W6 := HX2.out.step hsW (fun b hb => by omega)
            have hsz6 := hsW.size
            have hTL := HTL.out
            have hML := HML.out
            have hK6 : KeepI w.heap.size (fun b => H b ∨ b = M') ⟨some ⟨gT, 0, none⟩, tsc⟩ ⟨some ⟨gM, 0, none⟩, msc⟩ Ts Ms W6 := HK.out.grow hE6 (fun b hb => .inl hb) (fun b hl hb => hb.elim id fun e => by omega) (fun b hb => by
              rcases hb with hb | hb
              · have := HHB.out b hb; have := hE6.size; omega
              · omega)
            have hI6 : PlayI (fun b => H b ∨ b = M') M' T' W6 := HI6.out.less (fun b hb => .inl hb) (.inr rfl)
            have hlen' : (entsT T').length ≤ j + 1 := by
              rw [HST'.out.ents HI.out.ok]
              have := stepE_len a.kd a.k a.v (entsT T)
              omega
            have hx7 : Ext W6 (W6.alloc (.cells #[.pointer p'] 30)) := (Ext.refl W6).alloc _ _
            have hK7 := hK6.ext hx7
            have hI7 := hI6.ext hx7
            have hrd7 : Rd (W6.alloc (.cells #[.pointer p'] 30)) (fun b => b = W6.heap.size) 1 ⟨some ⟨W6.heap.size, 0, none⟩, 1⟩ 1 [.pointer p'] := Rd.block (Blk.new W6 30 #[.pointer p']) (by decide) rfl
            have hown7 := hK7.tro
            rw [hTL] at hown7
            have hbase7 : w.heap.size ≤ (W6.alloc (.cells #[.pointer p'] 30)).heap.size := by rw [World.size_alloc]; omega
            have HOWN7 := Lib.hid hown7
            have HONE7 := Lib.hid (show ∀ u ∈ [Value.pointer p'], u.oneCell' = true from fun u hu => by obtain rfl := List.mem_singleton.1 hu; rfl)
            have HONE9 := Lib.hid (show ∀ u ∈ [mapP M'], u.oneCell' = true from fun u hu => by obtain rfl := List.mem_singleton.1 hu; rfl)
            have HRD7 := Lib.hid hrd7
            have HK7 := Lib.hid hK7
            have HI7 := Lib.hid hI7
            have HX7 := Lib.hid ((HX.out.trans hE6).trans hx7)
            have h63 : j + 1 + 1 ≤ maxLen := by unfold maxLen; omega
            have hby : (j + 1 + 1) * 8 ≤ 140737488355328 := by omega
            have hMlt : M' < (W6.alloc (.cells #[.pointer p'] 30)).heap.size := by rw [World.size_alloc]; omega
            clear hK6 hI6 hx7 hK7 hI7 hrd7 hown7 hE6 hb6 hsW hs3 hTL hML HDO HSS
            go_upto_region 16 with (at_builtin; refine wpList_append_x _ rfl (.tmp 69) (.tmp 71) 31 rfl w.heap.size 30 i0 _ 1 8 Try.underlying31 hi hz0 hz1 hz2 rfl (by decide) ⟨some ⟨gT, 0, none⟩, tsc⟩ (j + 1) (Ts.map rootV) rfl HOWN7.out (fun b => b = W6.heap.size) ⟨some ⟨W6.heap.size, 0, none⟩, 1⟩ 1 [.pointer p'] rfl HRD7.out HONE7.out h63 hby hbase7 ?_; intro s7 w8 hown8 hwr8 hs8)
            have hneT : (⟨some ⟨gT, 0, none⟩, tsc⟩ : Sl).row ≠ some M' := by simp [Sl.row]; omega
            have hneM : (⟨some ⟨gM, 0, none⟩, msc⟩ : Sl).row ≠ some M' := by simp [Sl.row]; omega
            have hrw8 := row_new (s := ⟨some ⟨gT, 0, none⟩, tsc⟩) (s' := s7) hs8
            have hK8 := HK7.out.pushT (ts' := s7) (T := T') (by rw [HTL.out, HP'.out]; exact hown8) hwr8 hrw8
            have hI8 := HK7.out.carryT hwr8 hrw8 HI7.out hneT
            have hX8 : Ext w w8 := HX7.out.wr hwr8 (fun i hi => by simp [Sl.row] at hi; omega)
            have hneT8 : s7.row ≠ some M' := fun e => by
              rcases hrw8 with h | ⟨c, h, hc⟩
              · rw [h] at e; exact hneT e
              · rw [h] at e; simp at e; omega
            have hx9 : Ext w8 (w8.alloc (.cells #[mapP M'] 80)) := (Ext.refl w8).alloc _ _
            have hK9 := hK8.ext hx9
            have hI9 := hI8.ext hx9
            have hrd9 : Rd (w8.alloc (.cells #[mapP M'] 80)) (fun b => b = w8.heap.size) 1 ⟨some ⟨w8.heap.size, 0, none⟩, 1⟩ 1 [mapP M'] := Rd.block (Blk.new w8 80 #[mapP M']) (by decide) rfl
            have hown9 := hK9.mro
            rw [HML.out] at hown9
            have hws8 := hX8.size
            have hbase9 : w.heap.size ≤ (w8.alloc (.cells #[mapP M'] 80)).heap.size := by rw [World.size_alloc]; omega
            have HOWN9 := Lib.hid hown9
            have HRD9 := Lib.hid hrd9
            have HK9 := Lib.hid hK9
            have HI9 := Lib.hid hI9
            have HX9 := Lib.hid (hX8.trans hx9)
            clear hK8 hI8 hX8 hx9 hK9 hI9 hrd9 hown9 hown8 hwr8 hs8 hrw8
            go_wp2_with (at_builtin; refine wpList_append_x _ rfl (.tmp 73) (.tmp 75) 88 rfl w.heap.size 80 i1 _ 1 8 Try.underlying88 hi' hy0 hy1 hy2 rfl (by decide) ⟨some ⟨gM, 0, none⟩, msc⟩ (j + 1) (Ms.map mapP) rfl HOWN9.out (fun b => b = w8.heap.size) ⟨some ⟨w8.heap.size, 0, none⟩, 1⟩ 1 [mapP M'] rfl HRD9.out HONE9.out h63 hby hbase9 ?_; intro s9 wa hown10 hwr10 hs10)
            have hKa := HK9.out.pushM (ms' := s9) (T := T') (M := M') (by rw [HML.out, List.getElem?_append_right (by rw [HTL.out]; exact Nat.le_refl _), HTL.out, Nat.sub_self]; rfl) HI9.out hneT8 hneM (by rw [HML.out]; exact hown10) hwr10 (row_new (s := ⟨some ⟨gM, 0, none⟩, msc⟩) (s' := s9) hs10)
            have hXa : Ext w wa := HX9.out.wr hwr10 (fun i hi => by simp [Sl.row] at hi; omega)
            have HKA := Lib.hid hKa
            have HXA := Lib.hid hXa
            clear hKa hXa hown10 hwr10 hs10
            go_roundw
            case rel => exact ⟨j + 1, _, s7, s9, Ts ++ [T'], Ms ++ [M'], hlt, by go_num, by rw [List.length_append, HTL.out]; rfl, by rw [List.length_append, HML.out]; rfl, rfl, rfl, HKA.out, fun T2 hT2 => by
              rcases List.mem_append.1 hT2 with h | h
              · exact Nat.le_succ_of_le (HALL.out T2 h)
              · obtain rfl := List.mem_singleton.1 h; exact hlen', HXA.out⟩
            case measure => simp [intOf]; omega
      · have g1 : ¬ (j : Int) < (acts.length : Int) := by omega
        go_wp2_with fail
        obtain ⟨w4, hw4⟩ : ∃ w4, w4 = wr := ⟨_, rfl⟩
        subst hw4
        go_loopw [12] (fun i wq => ∃ q : Nat, q ≤ j + 1 ∧ i = .int .i64 q ∧ Ext w4 wq) (fun i _ => j + 1 - (intOf i).toNat)
        case atStart => exact ⟨0, Nat.zero_le _, rfl, Ext.refl _⟩
        case round =>
          obtain ⟨q, hq, rfl, hXq⟩ := hrel
          have HXQ := Lib.hid hXq
          by_cases hltq : q < j + 1
          · have g2 : (q : Int) < (j : Int) + 1 := by omega
            obtain ⟨T, hT⟩ : ∃ T, Ts[q]? = some T := ⟨_, List.getElem?_eq_getElem (by omega)⟩
            obtain ⟨M, hM⟩ : ∃ M, Ms[q]? = some M := ⟨_, List.getElem?_eq_getElem (by omega)⟩
            obtain ⟨p, hp⟩ := rootV_ptr T
            obtain ⟨gT, hta, htr, htb, htl, htc, htm, htk⟩ := own_at hK.tro (i := q) (v := rootV T) (by rw [List.getElem?_map, hT]; rfl)
            obtain ⟨gM, hma, hmr, hmb, hml, hmc, hmm, hmk⟩ := own_at hK.mro (i := q) (v := mapP M) (by rw [List.getElem?_map, hM]; rfl)
            rw [hTl] at htc
            rw [hMl] at hmc
            rw [hp] at htk
            have hI := hK.play q T M hT hM
            have hlT : (entsT T).length ≤ j := hall T (List.mem_of_getElem? hT)
            have HSND := Lib.hid (fun (W : World) (hW : Ext w4 W) => sndI hI (by omega) hp W hW)
            have HSS := Lib.hid (show ∀ W, Ext w4 W → W.cell? ⟨gT, q, none⟩ = some (.pointer p) ∧ W.cell? ⟨gM, q, none⟩ = some (mapP M) from fun W hW => ⟨(hW.cell htl).trans htk, (hW.cell hml).trans hmk⟩)
            obtain ⟨tsa, tsc⟩ := ts
            obtain ⟨msa, msc⟩ := ms
            dsimp only at hta htc htm hma hmc hmm
            subst hta hma
            clear hK hall hX hTl hMl hT hM hp hI htk hmk hXq
            go_wp2_with fail
            refine wp_region_held_drew (S := (fun w' => Ext w4 w')) (by kernel_rfl) ((HXQ.out.drew)) (fun hHeld => ?_)
            refine held_on (i := 0) (d := (some 83)) (v := ?_) rfl rfl (by kernel_rfl) (by kernel_rfl) (by kernel_rfl) (fun _ _ _ h => h) (by rfl) hHeld ?_ ?_
            rotate_left
            focus (intro w hSw; have hSc := HSS.out w hSw; clear hSw; go_simp; first | done | with_reducible rfl)
            try simp only [Act.put, List.setIfInBounds_toArray, List.set_cons_zero, List.set_cons_succ]
            refine held_on (i := 1) (d := (some 84)) (v := ?_) rfl rfl (by kernel_rfl) (by kernel_rfl) (by kernel_rfl) (fun _ _ _ h => h) (by rfl) hHeld ?_ ?_
            rotate_left
            focus (intro w hSw; have hSc := HSS.out w hSw; clear hSw; go_simp; first | done | with_reducible rfl)
            try simp only [Act.put, List.setIfInBounds_toArray, List.set_cons_zero, List.set_cons_succ]
            refine held_on (i := 2) (d := (some 85)) (v := ?_) rfl rfl (by kernel_rfl) (by kernel_rfl) (by kernel_rfl) (fun _ _ _ h => h) (by rfl) hHeld ?_ ?_
            rotate_left
            focus (intro w hSw; have hSc := HSS.out w hSw; clear hSw; go_simp; first | done | with_reducible rfl)
            try simp only [Act.put, List.setIfInBounds_toArray, List.set_cons_zero, List.set_cons_succ]
            refine held_on (i := 3) (d := (some 86)) (v := ?_) rfl rfl (by kernel_rfl) (by kernel_rfl) (by kernel_rfl) (fun _ _ _ h => h) (by rfl) hHeld ?_ ?_
            rotate_left
            focus (intro w hSw; have hSc := HSS.out w hSw; clear hSw; go_simp; first | done | with_reducible rfl)
            try simp only [Act.put, List.setIfInBounds_toArray, List.set_cons_zero, List.set_cons_succ]
            refine held_on (i := 4) (d := (some 87)) (v := ?_) rfl rfl (by kernel_rfl) (by kernel_rfl) (by kernel_rfl) (fun _ _ _ h => h) (by rfl) hHeld ?_ ?_
            rotate_left
            focus (intro w hSw; have hSc := HSS.out w hSw; clear hSw; go_simp; first | done | with_reducible rfl)
            try simp only [Act.put, List.setIfInBounds_toArray, List.set_cons_zero, List.set_cons_succ]
            refine held_on (i := 5) (d := (some 88)) (v := ?_) rfl rfl (by kernel_rfl) (by kernel_rfl) (by kernel_rfl) (fun _ _ _ h => h) (by rfl) hHeld ?_ ?_
            rotate_left
            focus (intro w hSw; have hSc := HSS.out w hSw; clear hSw; go_simp; first | done | with_reducible rfl)
            try simp only [Act.put, List.setIfInBounds_toArray, List.set_cons_zero, List.set_cons_succ]
            refine held_on (i := 6) (d := (some 89)) (v := ?_) rfl rfl (by kernel_rfl) (by kernel_rfl) (by kernel_rfl) (fun _ _ _ h => h) (by rfl) hHeld ?_ ?_
            rotate_left
            focus (intro w hSw; have hSc := HSS.out w hSw; clear hSw; go_simp; first | done | with_reducible rfl)
            try simp only [Act.put, List.setIfInBounds_toArray, List.set_cons_zero, List.set_cons_succ]
            refine held_on (i := 7) (d := (some 90)) (v := ?_) rfl rfl (by kernel_rfl) (by kernel_rfl) (by kernel_rfl) (fun _ _ _ h => h) (by rfl) hHeld ?_ ?_
            rotate_left
            focus (intro w hSw; have hSc := HSS.out w hSw; clear hSw; go_simp; first | done | with_reducible rfl)
            try simp only [Act.put, List.setIfInBounds_toArray, List.set_cons_zero, List.set_cons_succ]
            refine held_call (i := 8) (by kernel_rfl) rfl (by rfl) (fun K hK => ?_)
            go_simp
            (refine (HSND.out _ hHeld).mono ?_; rintro e w2 ⟨rfl, hx2⟩)
            refine hK.out _ _ (hHeld.trans hx2) (fun hHeld => ?_)
            clear hK K
            try simp only [Act.put, List.setIfInBounds_toArray, List.set_cons_zero, List.set_cons_succ]
            refine held_on (i := 9) (d := (some 92)) (v := ?_) rfl rfl (by kernel_rfl) (by kernel_rfl) (by kernel_rfl) (fun _ _ _ h => h) (by rfl) hHeld ?_ ?_
            rotate_left
            focus (intro w hSw; have hSc := HSS.out w hSw; clear hSw; go_simp; first | done | with_reducible rfl)
            try simp only [Act.put, List.setIfInBounds_toArray, List.set_cons_zero, List.set_cons_succ]
            refine wpAnyH_done (by kernel_rfl) ?_ _
            go_wp2_with fail
            go_roundw
            case rel => exact ⟨q + 1, hltq, by go_num, hHeld⟩
            case measure => simp [intOf]; omega
          · have g2 : ¬ (q : Int) < (j : Int) + 1 := by omega
            clear hK hall hX hXq
            go_wp2_with fail
            refine (known07 wr).mono ?_
            rintro e w9 ⟨rfl, hx9⟩
            go_wp2_with fail
            go_ret
            exact ⟨rfl, (HX.out.trans HXQ.out).trans hx9⟩
end Go.Proofs.Ytpapoalgocmlaaa
