/- What the theorem needs of the texts DiffApplies: no condition of its own. -/
import Derived.Test.YtpapoalgocmlaaaPda
import Derived.Test.YtpapoalgocmlaaaPdb
import Derived.Test.YtpapoalgocmlaaaPdc
import Derived.Test.YtpapoalgocmlaaaPdd
import Derived.Test.YtpapoalgocmlaaaPde
import Derived.Test.YtpapoalgocmlaaaPdf
import Derived.Test.YtpapoalgocmlaaaPdg
import Derived.Test.YtpapoalgocmlaaaPdh
import Derived.Test.YtpapoalgocmlaaaPdj
import Derived.Test.YtpapoalgocmlaaaPdo
namespace Go.Proofs.Ytpapoalgocmlaaa
open Go.RowKit Go.Shelf
set_option linter.unusedVariables false
set_option linter.unusedSimpArgs false
theorem putAll_takeA {l : List Ent} {j : Nat} {e : Ent} (h : l[j]? = some e) : putAll [] (l.take (j + 1)) = insE (putAll [] (l.take j)) e.1 e.2 := by
  rw [List.take_add_one, h]; exact putAll_snoc [] (l.take j) e
theorem apC_len : ∀ {l : List Chg} {es es' : List Ent}, apC es l = some es' → es'.length ≤ es.length + l.length
  | [], es, es', h => by
    obtain rfl : es = es' := by simpa [apC] using h
    simp
  | c :: l, es, es', h => by
    rw [apC] at h
    split at h
    · have h1 := apC_len h
      have h2 := stepC_len es c
      simp only [List.length_cons]
      omega
    · cases h
set_option maxRecDepth 100000 in
set_option maxHeartbeats 8000000 in
theorem diffapplies_w (s0 : Sl) (xs : List LE) (s1 : Sl) (cs : List CE) (w : World) (h0 : ES w (Lt w.heap.size) s0 xs) (h1 : CS w (Lt w.heap.size) s1 cs) : Calls Try.prog 26 #[.slice s0.a xs.length s0.c, .slice s1.a cs.length s1.c] w fun e w' => e = .returned (.bool true) ∧ Ext w w' := by
  by_cases hbig : 100 < xs.length ∨ 40 < cs.length
  · have hcase : (100 : Int) < (xs.length : Int) ∨ (¬ (100 : Int) < (xs.length : Int) ∧ (40 : Int) < (cs.length : Int)) := by omega
    clear h0 h1 hbig
    rcases hcase with g | ⟨g, g'⟩
    all_goals
      go_enter Try.func26, Try.ntmps26
      go_wp2_with fail
      refine (known09 w).mono ?_
      rintro e w9 ⟨rfl, hx9⟩
      go_wp2_with fail
      go_ret
      exact ⟨rfl, hx9⟩
  · have g0 : ¬ (100 : Int) < (xs.length : Int) := by omega
    have g0' : ¬ (40 : Int) < (cs.length : Int) := by omega
    have HE := Lib.hid h0
    have HC := Lib.hid h1
    have hx0 := (Ext.refl w).alloc #[.slice none 0 0] 82
    have hM0 : MapAt (fun b => b = w.heap.size) (w.alloc (.cells #[.slice none 0 0] 82)) w.heap.size (putAll [] ((xs.map LE.ent).take 0)) := ⟨rfl, Sl.none, [], Blk.new w _ _, ES.nil _ _, rfl⟩
    have hz0 : w.heap.size + 1 ≤ (w.alloc (.cells #[.slice none 0 0] 82)).heap.size := by simp
    have HX0 := Lib.hid hx0
    have HM0 := Lib.hid hM0
    clear h0 h1 hx0 hM0 hbig
    go_enter Try.func26, Try.ntmps26
    go_wp2_with fail
    generalize w.alloc (.cells #[.slice none 0 0] 82) = W0 at *
    go_loopw [6] (fun i wr => ∃ j : Nat, j ≤ xs.length ∧ i = .int .i64 j ∧ MapAt (fun b => b = w.heap.size) wr w.heap.size (putAll [] ((xs.map LE.ent).take j)) ∧ Ext w wr ∧ w.heap.size + 1 ≤ wr.heap.size) (fun i _ => xs.length - (intOf i).toNat)
    case atStart => exact ⟨0, Nat.zero_le _, rfl, HM0.out, HX0.out, hz0⟩
    case round =>
      obtain ⟨j, hj, rfl, hM, hX, hsz⟩ := hrel
      have HM := Lib.hid hM
      have HX := Lib.hid hX
      by_cases hlt : j < xs.length
      · have hjl : (j : Int) < (xs.length : Int) := by omega
        obtain ⟨x, hxj⟩ : ∃ x, xs[j]? = some x := ⟨_, List.getElem?_eq_getElem hlt⟩
        obtain ⟨b, o, ha, hbl, hlc, hcm, k0, hv, hrv, hks⟩ := HE.out.at hxj
        obtain ⟨v0, v1, v2, v3, v4, v5⟩ := hv.m
        obtain ⟨sa, sc⟩ := s0
        dsimp only at ha hlc hcm
        subst ha
        have hbl : b < w.heap.size := hbl
        have hXe : (xs.map LE.ent)[j]? = some x.ent := by rw [List.getElem?_map, hxj]; rfl
        have HXE := Lib.hid hXe
        have hlen : (putAll [] ((xs.map LE.ent).take j)).length ≤ 1000000 := by
          have := putAll_len ((xs.map LE.ent).take j) []
          rw [List.length_take, List.length_map] at this
          simp only [List.length_nil] at this
          omega
        have hput := fun (W : World) (hW : Ext wr W) => put7_any (hM.ext hW) (fun b hb => by have := hW.size; omega) (putAll_sorted' List.Pairwise.nil) hlen hks ((hrv.agree ((hX.trans hW).agree fun b hb => hb)).mono fun b hb => ⟨by have := hW.size; have hb : b < w.heap.size := hb; omega, fun e => by have hb : b < w.heap.size := hb; omega⟩)
        have HPUT := Lib.hid hput
        have HSS := Lib.hid (show ∀ W, St (fun b => b = w.heap.size) wr W → W.cell? ⟨b, o + j * 7, none⟩ = some (.string x.k) ∧ W.cell? ⟨b, o + j * 7 + 1, none⟩ = some (.int .i64 x.v.kind) ∧ W.cell? ⟨b, o + j * 7 + 2, none⟩ = some (.bool x.v.b) ∧ W.cell? ⟨b, o + j * 7 + 3, none⟩ = some (.int .i64 x.v.i) ∧ W.cell? ⟨b, o + j * 7 + 4, none⟩ = some (.string x.v.t) ∧ W.cell? ⟨b, o + j * 7 + 5, none⟩ = some (.slice x.sl.a x.v.l.length x.sl.c) ∧ W.cell? ⟨b, o + j * 7 + 6, none⟩ = some (.slice x.so.a x.v.ok.length x.so.c) from fun W hW => by
          have e : ∀ i u, w.cell? ⟨b, i, none⟩ = some u → W.cell? ⟨b, i, none⟩ = some u := fun i u hu => (hW.cell (by have := hX.size; omega) (by omega)).trans ((hX.cell hbl).trans hu)
          exact ⟨e _ _ k0, e _ _ v0, e _ _ v1, e _ _ v2, e _ _ v3, e _ _ v4, e _ _ v5⟩)
        clear hM hX hxj hv hrv hput k0 v0 v1 v2 v3 v4 v5 hXe
        go_wp2_with fail
        refine wp_region_held_drew (S := (fun w' => St (fun b => b = w.heap.size) wr w')) (by kernel_rfl) (((St.refl _ wr).drew)) (fun hHeld => ?_)
        refine held_on (i := 0) (d := (some 26)) (v := ?_) rfl rfl (by kernel_rfl) (by kernel_rfl) (by kernel_rfl) (fun _ _ _ h => h) (by rfl) hHeld ?_ ?_
        rotate_left
        focus (intro w hSw; have hSc := HSS.out w hSw; clear hSw; go_simp; first | done | with_reducible rfl)
        try simp only [Act.put, List.setIfInBounds_toArray, List.set_cons_zero, List.set_cons_succ]
        refine held_on (i := 1) (d := (some 27)) (v := ?_) rfl rfl (by kernel_rfl) (by kernel_rfl) (by kernel_rfl) (fun _ _ _ h => h) (by rfl) hHeld ?_ ?_
        rotate_left
        focus (intro w hSw; have hSc := HSS.out w hSw; clear hSw; go_simp; first | done | with_reducible rfl)
        try simp only [Act.put, List.setIfInBounds_toArray, List.set_cons_zero, List.set_cons_succ]
        refine held_on (i := 2) (d := (some 28)) (v := ?_) rfl rfl (by kernel_rfl) (by kernel_rfl) (by kernel_rfl) (fun _ _ _ h => h) (by rfl) hHeld ?_ ?_
        rotate_left
        focus (intro w hSw; have hSc := HSS.out w hSw; clear hSw; go_simp; first | done | with_reducible rfl)
        try simp only [Act.put, List.setIfInBounds_toArray, List.set_cons_zero, List.set_cons_succ]
        refine held_on (i := 3) (d := (some 29)) (v := ?_) rfl rfl (by kernel_rfl) (by kernel_rfl) (by kernel_rfl) (fun _ _ _ h => h) (by rfl) hHeld ?_ ?_
        rotate_left
        focus (intro w hSw; have hSc := HSS.out w hSw; clear hSw; go_simp; first | done | with_reducible rfl)
        try simp only [Act.put, List.setIfInBounds_toArray, List.set_cons_zero, List.set_cons_succ]
        refine held_on (i := 4) (d := (some 30)) (v := ?_) rfl rfl (by kernel_rfl) (by kernel_rfl) (by kernel_rfl) (fun _ _ _ h => h) (by rfl) hHeld ?_ ?_
        rotate_left
        focus (intro w hSw; have hSc := HSS.out w hSw; clear hSw; go_simp; first | done | with_reducible rfl)
        try simp only [Act.put, List.setIfInBounds_toArray, List.set_cons_zero, List.set_cons_succ]
        refine held_on (i := 5) (d := (some 31)) (v := ?_) rfl rfl (by kernel_rfl) (by kernel_rfl) (by kernel_rfl) (fun _ _ _ h => h) (by rfl) hHeld ?_ ?_
        rotate_left
        focus (intro w hSw; have hSc := HSS.out w hSw; clear hSw; go_simp; first | done | with_reducible rfl)
        try simp only [Act.put, List.setIfInBounds_toArray, List.set_cons_zero, List.set_cons_succ]
        refine held_on (i := 6) (d := (some 32)) (v := ?_) rfl rfl (by kernel_rfl) (by kernel_rfl) (by kernel_rfl) (fun _ _ _ h => h) (by rfl) hHeld ?_ ?_
        rotate_left
        focus (intro w hSw; have hSc := HSS.out w hSw; clear hSw; go_simp; first | done | with_reducible rfl)
        try simp only [Act.put, List.setIfInBounds_toArray, List.set_cons_zero, List.set_cons_succ]
        refine held_on (i := 7) (d := (some 33)) (v := ?_) rfl rfl (by kernel_rfl) (by kernel_rfl) (by kernel_rfl) (fun _ _ _ h => h) (by rfl) hHeld ?_ ?_
        rotate_left
        focus (intro w hSw; have hSc := HSS.out w hSw; clear hSw; go_simp; first | done | with_reducible rfl)
        try simp only [Act.put, List.setIfInBounds_toArray, List.set_cons_zero, List.set_cons_succ]
        refine held_on (i := 8) (d := (some 34)) (v := ?_) rfl rfl (by kernel_rfl) (by kernel_rfl) (by kernel_rfl) (fun _ _ _ h => h) (by rfl) hHeld ?_ ?_
        rotate_left
        focus (intro w hSw; have hSc := HSS.out w hSw; clear hSw; go_simp; first | done | with_reducible rfl)
        try simp only [Act.put, List.setIfInBounds_toArray, List.set_cons_zero, List.set_cons_succ]
        refine held_on (i := 9) (d := (some 35)) (v := ?_) rfl rfl (by kernel_rfl) (by kernel_rfl) (by kernel_rfl) (fun _ _ _ h => h) (by rfl) hHeld ?_ ?_
        rotate_left
        focus (intro w hSw; have hSc := HSS.out w hSw; clear hSw; go_simp; first | done | with_reducible rfl)
        try simp only [Act.put, List.setIfInBounds_toArray, List.set_cons_zero, List.set_cons_succ]
        refine held_on (i := 10) (d := (some 36)) (v := ?_) rfl rfl (by kernel_rfl) (by kernel_rfl) (by kernel_rfl) (fun _ _ _ h => h) (by rfl) hHeld ?_ ?_
        rotate_left
        focus (intro w hSw; have hSc := HSS.out w hSw; clear hSw; go_simp; first | done | with_reducible rfl)
        try simp only [Act.put, List.setIfInBounds_toArray, List.set_cons_zero, List.set_cons_succ]
        refine held_call (i := 11) (by kernel_rfl) rfl (by rfl) (fun K hK => ?_)
        go_simp
        (refine (HPUT.out _ ((Ext.refl wr).drew)).mono ?_; rintro e w2 ⟨⟨r, rfl⟩, hm2, hst2⟩)
        refine hK.out _ _ ((((Ext.refl wr).drew).st _).trans hst2) (fun hHeld => ?_)
        clear hK K
        try simp only [Act.put, List.setIfInBounds_toArray, List.set_cons_zero, List.set_cons_succ]
        refine wpAnyH_done (by kernel_rfl) ?_ _
        have HM2 := Lib.hid hm2
        have hst : St (fun b => b = w.heap.size) wr w2 := hHeld
        have HST := Lib.hid hst
        clear hm2 hst2 hHeld hst
        go_wp2_with fail
        go_roundw
        case rel => exact ⟨j + 1, hlt, by go_num, by rw [putAll_takeA HXE.out]; exact HM2.out, HX.out.step HST.out (fun b hb => by omega), Nat.le_trans hsz HST.out.size⟩
        case measure => simp [intOf]; omega
      · obtain rfl : j = xs.length := by omega
        rw [List.take_of_length_le (by rw [List.length_map]; exact Nat.le_refl _)] at HM
        have hg1 : ¬ (xs.length : Int) < (xs.length : Int) := by omega
        have hln : (putAll [] (xs.map LE.ent)).length ≤ 100 := by
          have := putAll_len (xs.map LE.ent) []
          simp only [List.length_map, List.length_nil] at this
          omega
        have hbu := build_any (HE.out.ext hX) (by omega : xs.length ≤ 100000)
        have HBU := Lib.hid hbu
        clear hM hX hbu
        go_wp2_with fail
        refine HBU.out.mono ?_
        rintro e w2 ⟨T, rfl, hbt, hT, hx2⟩
        have hent := hbt.both.2
        have hap := apply_any (cs := cs) (s := s1) (fun b hb => hb.2) hT hbt.both.1 ((HC.out.ext9 HX.out).ext9 hx2) (by rw [hent]; omega)
        obtain ⟨p, hp⟩ := rootV_ptr T
        rw [treeV, hp] at hap ⊢
        obtain ⟨ap, hapn⟩ : ∃ ap, apC (putAll [] (xs.map LE.ent)) (cs.map CE.c) = ap := ⟨_, rfl⟩
        rw [hent, hapn] at hap
        have hs2 := hx2.size
        have hmp := fun (W : World) (hW : Ext wr W) => app9_any (H := fun b => b = w.heap.size) (G := Lt w.heap.size) (HM.out.ext hW) (fun b hb => by have := hW.size; omega) (putAll_sorted' List.Pairwise.nil) ((CS.agreeG HC.out ((HX.out.trans hW).agree fun _ h => h))) (fun b (hb : b < w.heap.size) => ⟨by have := hW.size; omega, by omega⟩) (by omega : (putAll [] (xs.map LE.ent)).length + cs.length ≤ 100000)
        rw [hapn] at hmp
        have HAP := Lib.hid hap
        have HMP := Lib.hid hmp
        have HX2 := Lib.hid hx2
        have hapl : ∀ es, ap = some es → es.length ≤ 1000000 := fun es he => by
          have := apC_len (hapn.trans he)
          rw [List.length_map] at this
          omega
        have HAPL := Lib.hid hapl
        clear hbt hT hx2 hent hap hp hmp hapn hapl
        go_wp2_with fail
        refine HAP.out.mono ?_
        rintro e w3 ⟨T', rfl, ok', hT', hent', hx3⟩
        obtain ⟨code, hcode⟩ : ∃ c : Int, (if ap.isSome = true then 0 else 13) = c := ⟨_, rfl⟩
        rw [hcode]
        have HCODE := Lib.hid hcode
        clear hcode
        obtain ⟨p', hp'⟩ := rootV_ptr T'
        rw [treeV, hp']
        have hx4 := (Ext.refl w3).alloc #[.pointer p'] 30
        have HB4 := Lib.hid (Blk.new w3 30 #[.pointer p'])
        have H4 := Lib.hid ((HX2.out.trans hx3).trans hx4)
        have hs3 := hx3.size
        have HT4 := Lib.hid (show IsT (w3.alloc (.cells #[.pointer p'] 30)) (fun b => wr.heap.size ≤ b ∧ b < w3.heap.size) T' from (hT'.mono (G := fun b => wr.heap.size ≤ b ∧ b < w3.heap.size) fun b hb => hb.elim (fun h => ⟨h.1, by have := h.2; omega⟩) (fun h => ⟨by have := h.1; omega, h.2⟩)).agree (hx4.agree fun b hb => hb.2))
        have HOK' := Lib.hid ok'
        have HENT' := Lib.hid hent'
        have HP' := Lib.hid hp'
        clear hx3 hx4 hT' ok' hent' hp'
        go_wp2_with fail
        generalize hW4 : w3.alloc (.cells #[.pointer p'] 30) = W4 at *
        have hz4 : W4.heap.size = w3.heap.size + 1 := by rw [← hW4]; simp
        clear hW4
        refine (HMP.out W4 H4.out).mono ?_
        rintro e w5 ⟨es', rfl, hes, hso, hm5, hst5⟩
        have hs5 := hst5.size
        have hb5 := hst5.blk HB4.out (by omega)
        have hT5 := HT4.out.agree (hst5.agree.mono fun b hb => ⟨by have := hb.2; omega, by have := hb.1; omega⟩)
        have hle : (entsT T').length ≤ 1000000 := by
          rw [HENT'.out]
          cases ap with
          | none => simp
          | some es => exact HAPL.out es rfl
        have hlt5 : ∀ b, (wr.heap.size ≤ b ∧ b < w3.heap.size) → b < w5.heap.size := fun b hb => by have := hb.2; omega
        have hcode := HCODE.out
        have hent' := HENT'.out
        have HX5 := Lib.hid ((HX.out.trans H4.out).step hst5 (fun b hb => by omega))
        have hln5 := treeLen_any hlt5 hT5
        have hen5 := fun (W : World) (hW : Ext w5 W) => treeEntries_any (fun b hb => Nat.lt_of_lt_of_le (hlt5 b hb) hW.size) (hT5.agree (hW.agree hlt5)) HOK'.out hle
        rw [treeV, HP'.out] at hln5 hen5
        have c5 : w5.cell? ⟨w3.heap.size, 0, none⟩ = some (.pointer p') := hb5.cell 0
        have l5 := hb5.lt
        obtain ⟨-, sm, ms, hbm, hsm, hme⟩ := hm5
        have HME := Lib.hid (hme.trans rfl)
        have HSM := Lib.hid (hsm.mono (G := Lt w5.heap.size) fun i hi => hi.1)
        have HBM := Lib.hid hbm
        have HLN5 := Lib.hid hln5
        have HEN5 := Lib.hid hen5
        have HB5 := Lib.hid hb5
        have HES := Lib.hid hes
        clear hst5 hb5 hT5 hbm hsm hme hln5 hen5 hle hso hes
        cases ap with
        | none =>
          have hcode : code = 13 := hcode.symm
          subst hcode
          have he0 : entsT T' = [] := hent'
          rw [he0] at HLN5
          clear hent' he0
          go_wp2_with fail
          refine HLN5.out.mono ?_
          rintro e w6 ⟨rfl, hx6⟩
          have HX6 := Lib.hid (HX5.out.trans hx6)
          clear hx6 c5 l5
          go_wp2_with fail
          refine (known09 _).mono ?_
          rintro e w7 ⟨rfl, hx7⟩
          have HX7 := Lib.hid (HX6.out.trans hx7)
          clear hx7
          go_wp2_with fail
          go_ret
          exact ⟨rfl, HX7.out⟩
        | some es =>
          have hcode : code = 0 := hcode.symm
          subst hcode
          have he0 : es' = entsT T' := (HES.out es rfl).trans hent'.symm
          have HE0 := Lib.hid he0
          have HSS := Lib.hid (show ∀ W, Ext w5 W → W.cell? ⟨w3.heap.size, 0, none⟩ = some (.pointer p') ∧ W.cell? ⟨w.heap.size, 0, none⟩ = some (.slice sm.a ms.length sm.c) from fun W hW => ⟨(HB5.out.ext hW).cell 0, (HBM.out.ext hW).cell 0⟩)
          clear hent' he0 c5 l5
          go_wp2_with fail
          refine wp_region_held_drew (S := (fun w' => Ext w5 w')) (by kernel_rfl) (((Ext.refl w5).drew)) (fun hHeld => ?_)
          refine held_on (i := 0) (d := (some 59)) (v := ?_) rfl rfl (by kernel_rfl) (by kernel_rfl) (by kernel_rfl) (fun _ _ _ h => h) (by rfl) hHeld ?_ ?_
          rotate_left
          focus (intro w hSw; have hSc := HSS.out w hSw; clear hSw; go_simp; first | done | with_reducible rfl)
          try simp only [Act.put, List.setIfInBounds_toArray, List.set_cons_zero, List.set_cons_succ]
          refine held_on (i := 1) (d := (some 60)) (v := ?_) rfl rfl (by kernel_rfl) (by kernel_rfl) (by kernel_rfl) (fun _ _ _ h => h) (by rfl) hHeld ?_ ?_
          rotate_left
          focus (intro w hSw; have hSc := HSS.out w hSw; clear hSw; go_simp; first | done | with_reducible rfl)
          try simp only [Act.put, List.setIfInBounds_toArray, List.set_cons_zero, List.set_cons_succ]
          refine held_on (i := 2) (d := (some 61)) (v := ?_) rfl rfl (by kernel_rfl) (by kernel_rfl) (by kernel_rfl) (fun _ _ _ h => h) (by rfl) hHeld ?_ ?_
          rotate_left
          focus (intro w hSw; have hSc := HSS.out w hSw; clear hSw; go_simp; first | done | with_reducible rfl)
          try simp only [Act.put, List.setIfInBounds_toArray, List.set_cons_zero, List.set_cons_succ]
          refine held_on (i := 3) (d := (some 62)) (v := ?_) rfl rfl (by kernel_rfl) (by kernel_rfl) (by kernel_rfl) (fun _ _ _ h => h) (by rfl) hHeld ?_ ?_
          rotate_left
          focus (intro w hSw; have hSc := HSS.out w hSw; clear hSw; go_simp; first | done | with_reducible rfl)
          try simp only [Act.put, List.setIfInBounds_toArray, List.set_cons_zero, List.set_cons_succ]
          refine held_on (i := 5) (d := (some 64)) (v := ?_) rfl rfl (by kernel_rfl) (by kernel_rfl) (by kernel_rfl) (fun _ _ _ h => h) (by rfl) hHeld ?_ ?_
          rotate_left
          focus (intro w hSw; have hSc := HSS.out w hSw; clear hSw; go_simp; first | done | with_reducible rfl)
          try simp only [Act.put, List.setIfInBounds_toArray, List.set_cons_zero, List.set_cons_succ]
          refine held_on (i := 6) (d := (some 65)) (v := ?_) rfl rfl (by kernel_rfl) (by kernel_rfl) (by kernel_rfl) (fun _ _ _ h => h) (by rfl) hHeld ?_ ?_
          rotate_left
          focus (intro w hSw; have hSc := HSS.out w hSw; clear hSw; go_simp; first | done | with_reducible rfl)
          try simp only [Act.put, List.setIfInBounds_toArray, List.set_cons_zero, List.set_cons_succ]
          refine held_on (i := 7) (d := (some 66)) (v := ?_) rfl rfl (by kernel_rfl) (by kernel_rfl) (by kernel_rfl) (fun _ _ _ h => h) (by rfl) hHeld ?_ ?_
          rotate_left
          focus (intro w hSw; have hSc := HSS.out w hSw; clear hSw; go_simp; first | done | with_reducible rfl)
          try simp only [Act.put, List.setIfInBounds_toArray, List.set_cons_zero, List.set_cons_succ]
          refine held_on (i := 8) (d := (some 67)) (v := ?_) rfl rfl (by kernel_rfl) (by kernel_rfl) (by kernel_rfl) (fun _ _ _ h => h) (by rfl) hHeld ?_ ?_
          rotate_left
          focus (intro w hSw; have hSc := HSS.out w hSw; clear hSw; go_simp; first | done | with_reducible rfl)
          try simp only [Act.put, List.setIfInBounds_toArray, List.set_cons_zero, List.set_cons_succ]
          refine held_call (i := 4) (by kernel_rfl) rfl (by rfl) (fun K hK => ?_)
          go_simp
          (refine (HEN5.out _ hHeld).mono ?_; rintro e w6 ⟨se, xe, rfl, hxe, hse, hx6⟩; have HX6 := Lib.hid (hHeld.trans hx6); have HSE := Lib.hid (hse.es.mono (G := Lt w6.heap.size) fun i hi => hi.2); have HXE := Lib.hid hxe; have HSM6 := Lib.hid (HSM.out.ext HX6.out); have hsmm := sameEnt_any HSE.out HSM6.out; rw [HXE.out, HME.out, HE0.out, sameE_refl] at hsmm; have HSMM := Lib.hid hsmm; clear hxe hse hx6 hsmm)
          refine hK.out _ _ (HX6.out) (fun hHeld => ?_)
          clear hK K
          try simp only [Act.put, List.setIfInBounds_toArray, List.set_cons_zero, List.set_cons_succ]
          refine held_call (i := 9) (by kernel_rfl) rfl (by rfl) (fun K hK => ?_)
          go_simp
          (refine HSMM.out.mono ?_; rintro e w7 ⟨rfl, hx7⟩)
          refine hK.out _ _ (hHeld.trans hx7) (fun hHeld => ?_)
          clear hK K
          try simp only [Act.put, List.setIfInBounds_toArray, List.set_cons_zero, List.set_cons_succ]
          refine held_on (i := 10) (d := (some 69)) (v := ?_) rfl rfl (by kernel_rfl) (by kernel_rfl) (by kernel_rfl) (fun _ _ _ h => h) (by rfl) hHeld ?_ ?_
          rotate_left
          focus (intro w hSw; have hSc := HSS.out w hSw; clear hSw; go_simp; first | done | with_reducible rfl)
          try simp only [Act.put, List.setIfInBounds_toArray, List.set_cons_zero, List.set_cons_succ]
          refine held_on (i := 11) (d := (some 70)) (v := ?_) rfl rfl (by kernel_rfl) (by kernel_rfl) (by kernel_rfl) (fun _ _ _ h => h) (by rfl) hHeld ?_ ?_
          rotate_left
          focus (intro w hSw; have hSc := HSS.out w hSw; clear hSw; go_simp; first | done | with_reducible rfl)
          try simp only [Act.put, List.setIfInBounds_toArray, List.set_cons_zero, List.set_cons_succ]
          refine held_call (i := 12) (by kernel_rfl) rfl (by rfl) (fun K hK => ?_)
          go_simp
          (refine (known09 _).mono ?_; rintro e w8 ⟨rfl, hx8⟩)
          refine hK.out _ _ (hHeld.trans hx8) (fun hHeld => ?_)
          clear hK K
          try simp only [Act.put, List.setIfInBounds_toArray, List.set_cons_zero, List.set_cons_succ]
          refine held_on (i := 13) (d := (some 72)) (v := ?_) rfl rfl (by kernel_rfl) (by kernel_rfl) (by kernel_rfl) (fun _ _ _ h => h) (by rfl) hHeld ?_ ?_
          rotate_left
          focus (intro w hSw; have hSc := HSS.out w hSw; clear hSw; go_simp; first | done | with_reducible rfl)
          try simp only [Act.put, List.setIfInBounds_toArray, List.set_cons_zero, List.set_cons_succ]
          refine held_on (i := 14) (d := (some 4)) (v := ?_) rfl rfl (by kernel_rfl) (by kernel_rfl) (by kernel_rfl) (fun _ _ _ h => h) (by rfl) hHeld ?_ ?_
          rotate_left
          focus (intro w hSw; have hSc := HSS.out w hSw; clear hSw; go_simp; first | done | with_reducible rfl)
          try simp only [Act.put, List.setIfInBounds_toArray, List.set_cons_zero, List.set_cons_succ]
          refine wpAnyH_done (by kernel_rfl) ?_ _
          have HX9 := Lib.hid (HX5.out.trans hHeld)
          clear hHeld
          go_wp2_with fail
          go_ret
          exact ⟨rfl, HX9.out⟩
end Go.Proofs.Ytpapoalgocmlaaa
