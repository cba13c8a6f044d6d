/- value.inOrder: lists of values, of members, in order. -/
import Derived.Test.YtpapoalgocmlaaaCmpW
namespace Go.Proofs.Ytpapoalgocmlaaa
open Go.RowKit
set_option linter.unusedVariables false
set_option linter.unusedSimpArgs false
/-- What Compare answers, for all smaller values. -/
def CmpIH (m : Nat) : Prop := ∀ (x y : Val), SizeOf.sizeOf x ≤ m → ∀ (w : World) (sl so sl' so' : Sl), RV w (Lt w.heap.size) x sl so → RV w (Lt w.heap.size) y sl' so' → Calls Try.prog 156 #[aggV x sl so, aggV y sl' so'] w (CmpPost (cmpV x y) w)
theorem min_facts (a b : Nat) : ∃ c : Nat, (if a < b then (a : Int) else (b : Int)) = (c : Int) ∧ (if b < a then (b : Int) else (a : Int)) = (c : Int) ∧ c ≤ a ∧ c ≤ b ∧ (c = a ∨ c = b) := by
  by_cases h : a < b
  · exact ⟨a, by rw [if_pos h], by rw [if_neg (by omega)], by omega, by omega, .inl rfl⟩
  · by_cases h' : b < a
    · exact ⟨b, by rw [if_neg h], by rw [if_pos h'], by omega, by omega, .inr rfl⟩
    · exact ⟨a, by rw [if_neg h]; omega, by rw [if_neg h'], by omega, by omega, .inl rfl⟩
set_option maxRecDepth 100000 in
set_option maxHeartbeats 4000000 in
theorem inOrderV {m : Nat} (hih : CmpIH m) {x y : Val} (hd : SizeOf.sizeOf x ≤ m + 1) {w : World} {sl so sl' so' : Sl} (h : RV w (Lt w.heap.size) x sl so) (h' : RV w (Lt w.heap.size) y sl' so') :
    Calls Try.prog 183 #[.slice sl.a x.l.length sl.c, .slice sl'.a y.l.length sl'.c, .func (.func 156) #[] #[]] w (CmpPost (cmpL x.l y.l) w) := by
  have HI := Lib.hid hih
  clear hih
  obtain ⟨k, b, i, t, l, ok, ov⟩ := x
  obtain ⟨k', b', i', t', l', ok', ov'⟩ := y
  show Calls _ _ #[.slice sl.a l.length sl.c, .slice sl'.a l'.length sl'.c, _] _ (CmpPost (cmpL l l') w)
  cases h with
  | mk bl fl bo fo cl co hl ho hov el rl ek eo ro bk bi bt nl no =>
  cases h' with
  | mk bl' fl' bo' fo' cl' co' hl' ho' hov' el' rl' ek' eo' ro' bk' bi' bt' nl' no' =>
  have hsl : ∀ (j : Nat) (d : Val), l[j]? = some d → SizeOf.sizeOf d ≤ m := fun j d hj => Nat.le_of_lt_succ (Nat.lt_of_lt_of_le (Val.sz_l hj) hd)
  have HSL := Lib.hid hsl
  have HEL := Lib.hid el
  have HRL := Lib.hid rl
  have HEL' := Lib.hid el'
  have HRL' := Lib.hid rl'
  clear hsl el rl ek eo ro hov hd el' rl' ek' eo' ro' hov'
  have hnl : l.length ≤ 140737488355328 := by omega
  have hnl' : l'.length ≤ 140737488355328 := by omega
  obtain ⟨mn, hm1, hm2, hmn1, hmn2, hmn3⟩ := min_facts l.length l'.length
  go_enter Try.func183, Try.ntmps183
  go_wp2_with fail
  clear hm1 hm2
  go_loopw [14] (fun q wr => ∃ j : Nat, q = .int .i64 j ∧ j ≤ mn ∧ cmpL l l' = cmpL (l.drop j) (l'.drop j) ∧ Ext w wr) (fun q _ => mn - (intOf q).toNat)
  case atStart => exact ⟨0, rfl, Nat.zero_le _, rfl, Ext.refl w⟩
  case round =>
    obtain ⟨j, rfl, hj, hp, hx⟩ := hrel
    have HP := Lib.hid hp
    have HX := Lib.hid hx
    by_cases h1 : j < mn
    · have g1 : (j : Int) < (mn : Int) := by omega
      have g2 : (j : Int) < (l.length : Int) := by omega
      have g3 : (j : Int) < (l'.length : Int) := by omega
      obtain ⟨d, hd⟩ : ∃ d, l[j]? = some d := ⟨_, List.getElem?_eq_getElem (by omega)⟩
      obtain ⟨d', hd'⟩ : ∃ d, l'[j]? = some d := ⟨_, List.getElem?_eq_getElem (by omega)⟩
      have HD := Lib.hid (cmpL_drop hd hd')
      have hag : Agree (Lt w.heap.size) w wr := hx.agree fun _ h => h
      obtain ⟨sa, sc⟩ := sl
      obtain ⟨sa', sc'⟩ := sl'
      obtain ⟨rfl, hlc, hcm⟩ := hl.eq (by omega)
      obtain ⟨rfl, hlc', hcm'⟩ := hl'.eq (by omega)
      have hbl := hl.fits (by omega)
      have hbl' := hl'.fits (by omega)
      obtain ⟨v0, v1, v2, v3, v4, v5⟩ := (HEL.out j d hd).agree hag hbl
      obtain ⟨v0', v1', v2', v3', v4', v5'⟩ := (HEL'.out j d' hd').agree hag hbl'
      have HIC := Lib.hid (fun (W : World) (hW : Ext wr W) =>
        HI.out d d' (HSL.out j d hd) W _ _ _ _ (((HRL.out j d hd).agree (hag.trans (hW.agree fun _ h => Nat.lt_of_lt_of_le h hx.size))).mono fun i hi => Nat.lt_of_lt_of_le hi (Nat.le_trans hx.size hW.size))
          (((HRL'.out j d' hd').agree (hag.trans (hW.agree fun _ h => Nat.lt_of_lt_of_le h hx.size))).mono fun i hi => Nat.lt_of_lt_of_le hi (Nat.le_trans hx.size hW.size)))
      have lb : bl < wr.heap.size := Nat.lt_of_lt_of_le hbl hx.size
      have lb' : bl' < wr.heap.size := Nat.lt_of_lt_of_le hbl' hx.size
      have HSS := Lib.hid (show ∀ W, Ext wr W → W.cell? ⟨bl, fl + j * 6, none⟩ = some (.int .i64 d.kind) ∧ W.cell? ⟨bl, fl + j * 6 + 1, none⟩ = some (.bool d.b) ∧ W.cell? ⟨bl, fl + j * 6 + 2, none⟩ = some (.int .i64 d.i) ∧ W.cell? ⟨bl, fl + j * 6 + 3, none⟩ = some (.string d.t) ∧ W.cell? ⟨bl, fl + j * 6 + 4, none⟩ = some (.slice (cl j).1.a d.l.length (cl j).1.c) ∧ W.cell? ⟨bl, fl + j * 6 + 5, none⟩ = some (.slice (cl j).2.a d.ok.length (cl j).2.c) ∧ W.cell? ⟨bl', fl' + j * 6, none⟩ = some (.int .i64 d'.kind) ∧ W.cell? ⟨bl', fl' + j * 6 + 1, none⟩ = some (.bool d'.b) ∧ W.cell? ⟨bl', fl' + j * 6 + 2, none⟩ = some (.int .i64 d'.i) ∧ W.cell? ⟨bl', fl' + j * 6 + 3, none⟩ = some (.string d'.t) ∧ W.cell? ⟨bl', fl' + j * 6 + 4, none⟩ = some (.slice (cl' j).1.a d'.l.length (cl' j).1.c) ∧ W.cell? ⟨bl', fl' + j * 6 + 5, none⟩ = some (.slice (cl' j).2.a d'.ok.length (cl' j).2.c) from
        fun W hW => ⟨(hW.cell lb).trans v0, (hW.cell lb).trans v1, (hW.cell lb).trans v2, (hW.cell lb).trans v3, (hW.cell lb).trans v4, (hW.cell lb).trans v5, (hW.cell lb').trans v0', (hW.cell lb').trans v1', (hW.cell lb').trans v2', (hW.cell lb').trans v3', (hW.cell lb').trans v4', (hW.cell lb').trans v5'⟩)
      clear hp hx hd hd' hag hbl hbl' v0 v1 v2 v3 v4 v5 v0' v1' v2' v3' v4' v5'
      go_wp2_with fail
      refine wp_region_held_drew (S := (fun w' => Ext wr w')) (by kernel_rfl) (((Ext.refl wr).drew)) (fun hHeld => ?_)
      refine held_on (i := 0) (d := (some 17)) (v := ?_) rfl rfl (by kernel_rfl) (by kernel_rfl) (by kernel_rfl) (fun _ _ _ h => h) (by rfl) hHeld ?_ ?_
      rotate_left
      focus (intro w hSw; have hSc := HSS.out w hSw; clear hSw; go_simp; first | done | with_reducible rfl)
      try simp only [Act.put, List.setIfInBounds_toArray, List.set_cons_zero, List.set_cons_succ]
      refine held_on (i := 1) (d := (some 18)) (v := ?_) rfl rfl (by kernel_rfl) (by kernel_rfl) (by kernel_rfl) (fun _ _ _ h => h) (by rfl) hHeld ?_ ?_
      rotate_left
      focus (intro w hSw; have hSc := HSS.out w hSw; clear hSw; go_simp; first | done | with_reducible rfl)
      try simp only [Act.put, List.setIfInBounds_toArray, List.set_cons_zero, List.set_cons_succ]
      refine held_on (i := 2) (d := (some 19)) (v := ?_) rfl rfl (by kernel_rfl) (by kernel_rfl) (by kernel_rfl) (fun _ _ _ h => h) (by rfl) hHeld ?_ ?_
      rotate_left
      focus (intro w hSw; have hSc := HSS.out w hSw; clear hSw; go_simp; first | done | with_reducible rfl)
      try simp only [Act.put, List.setIfInBounds_toArray, List.set_cons_zero, List.set_cons_succ]
      refine held_on (i := 3) (d := (some 20)) (v := ?_) rfl rfl (by kernel_rfl) (by kernel_rfl) (by kernel_rfl) (fun _ _ _ h => h) (by rfl) hHeld ?_ ?_
      rotate_left
      focus (intro w hSw; have hSc := HSS.out w hSw; clear hSw; go_simp; first | done | with_reducible rfl)
      try simp only [Act.put, List.setIfInBounds_toArray, List.set_cons_zero, List.set_cons_succ]
      refine held_on (i := 4) (d := (some 21)) (v := ?_) rfl rfl (by kernel_rfl) (by kernel_rfl) (by kernel_rfl) (fun _ _ _ h => h) (by rfl) hHeld ?_ ?_
      rotate_left
      focus (intro w hSw; have hSc := HSS.out w hSw; clear hSw; go_simp; first | done | with_reducible rfl)
      try simp only [Act.put, List.setIfInBounds_toArray, List.set_cons_zero, List.set_cons_succ]
      refine held_on (i := 5) (d := (some 22)) (v := ?_) rfl rfl (by kernel_rfl) (by kernel_rfl) (by kernel_rfl) (fun _ _ _ h => h) (by rfl) hHeld ?_ ?_
      rotate_left
      focus (intro w hSw; have hSc := HSS.out w hSw; clear hSw; go_simp; first | done | with_reducible rfl)
      try simp only [Act.put, List.setIfInBounds_toArray, List.set_cons_zero, List.set_cons_succ]
      refine held_on (i := 6) (d := (some 23)) (v := ?_) rfl rfl (by kernel_rfl) (by kernel_rfl) (by kernel_rfl) (fun _ _ _ h => h) (by rfl) hHeld ?_ ?_
      rotate_left
      focus (intro w hSw; have hSc := HSS.out w hSw; clear hSw; go_simp; first | done | with_reducible rfl)
      try simp only [Act.put, List.setIfInBounds_toArray, List.set_cons_zero, List.set_cons_succ]
      refine held_on (i := 7) (d := (some 24)) (v := ?_) rfl rfl (by kernel_rfl) (by kernel_rfl) (by kernel_rfl) (fun _ _ _ h => h) (by rfl) hHeld ?_ ?_
      rotate_left
      focus (intro w hSw; have hSc := HSS.out w hSw; clear hSw; go_simp; first | done | with_reducible rfl)
      try simp only [Act.put, List.setIfInBounds_toArray, List.set_cons_zero, List.set_cons_succ]
      refine held_on (i := 8) (d := (some 25)) (v := ?_) rfl rfl (by kernel_rfl) (by kernel_rfl) (by kernel_rfl) (fun _ _ _ h => h) (by rfl) hHeld ?_ ?_
      rotate_left
      focus (intro w hSw; have hSc := HSS.out w hSw; clear hSw; go_simp; first | done | with_reducible rfl)
      try simp only [Act.put, List.setIfInBounds_toArray, List.set_cons_zero, List.set_cons_succ]
      refine held_call (i := 9) (by kernel_rfl) rfl (by rfl) (fun K hK => ?_)
      go_simp
      (refine (HIC.out _ hHeld).mono ?_; rintro e w2 ⟨rfl, hx2⟩)
      refine hK.out _ _ (hHeld.trans hx2) (fun hHeld => ?_)
      clear hK K
      try simp only [Act.put, List.setIfInBounds_toArray, List.set_cons_zero, List.set_cons_succ]
      refine held_on (i := 10) (d := (some 8)) (v := ?_) rfl rfl (by kernel_rfl) (by kernel_rfl) (by kernel_rfl) (fun _ _ _ h => h) (by rfl) hHeld ?_ ?_
      rotate_left
      focus (intro w hSw; have hSc := HSS.out w hSw; clear hSw; go_simp; first | done | with_reducible rfl)
      try simp only [Act.put, List.setIfInBounds_toArray, List.set_cons_zero, List.set_cons_succ]
      refine wpAnyH_done (by kernel_rfl) ?_ _
      have HX2 := Lib.hid (HX.out.trans hHeld)
      clear hHeld hx2
      by_cases hc : cmpV d d' = 0
      · have hcb : (cmpV d d' != 0) = false := by simp [hc]
        have HC := Lib.hid hc
        clear hc
        go_wp2_with fail
        go_roundw
        case rel => exact ⟨j + 1, by go_num, h1, by rw [HP.out, HD.out, if_neg (by simp [HC.out])], HX2.out⟩
        case measure => simp [intOf]; omega
      · have hcb : (cmpV d d' != 0) = true := bne_iff_ne.2 hc
        have HC := Lib.hid hc
        clear hc
        go_wp2_with fail
        go_ret
        rw [HP.out, HD.out, if_pos HC.out]
        exact ⟨rfl, HX2.out⟩
    · have g1 : ¬ (j : Int) < (mn : Int) := by omega
      have HE := Lib.hid (cmpL_end (l := l) (l' := l') (j := j) (by omega) (by omega) (by omega))
      have hcm := compareint_any wr (l.length : Int) (l'.length : Int)
      clear hp hx
      go_wp2_with fail
      refine hcm.mono ?_
      rintro e w2 ⟨rfl, rfl⟩
      go_wp2_with fail
      go_ret
      rw [HP.out, HE.out]
      exact ⟨rfl, HX.out⟩
/-- Two members in order. -/
def memI (x y : ByteArray) (d d' : Val) : Int := if textI x y ≠ 0 then textI x y else cmpV d d'
theorem cmpM_drop2 {l l' : List Val} {k k' : List ByteArray} {j : Nat} {a b : Val} {x y : ByteArray} (ha : l[j]? = some a) (hb : l'[j]? = some b) (hx : k[j]? = some x) (hy : k'[j]? = some y) :
    cmpM (l.drop j) (k.drop j) (k'.drop j) (l'.drop j) = if memI x y a b ≠ 0 then memI x y a b else cmpM (l.drop (j + 1)) (k.drop (j + 1)) (k'.drop (j + 1)) (l'.drop (j + 1)) := by
  rw [cmpM_drop ha hb hx hy]
  unfold memI
  by_cases h : textI x y = 0 <;> simp [h]
abbrev aggM (k : ByteArray) (d : Val) (sl so : Sl) : Value := .agg #[.string k, .int .i64 d.kind, .bool d.b, .int .i64 d.i, .string d.t, .slice sl.a d.l.length sl.c, .slice so.a d.ok.length so.c]
set_option maxRecDepth 100000 in
set_option maxHeartbeats 1000000 in
theorem members_any {m : Nat} (hih : CmpIH m) {d d' : Val} (hd : SizeOf.sizeOf d ≤ m) {x y : ByteArray} {w : World} {sl so sl' so' : Sl} (h : RV w (Lt w.heap.size) d sl so) (h' : RV w (Lt w.heap.size) d' sl' so') :
    Calls Try.prog 185 #[aggM x d sl so, aggM y d' sl' so'] w (CmpPost (memI x y d d') w) := by
  have HIC := Lib.hid (fun (W : World) (hW : Ext w W) => hih d d' hd W _ _ _ _ ((h.agree (hW.agree fun _ h => h)).mono fun i hi => Nat.lt_of_lt_of_le hi hW.size) ((h'.agree (hW.agree fun _ h => h)).mono fun i hi => Nat.lt_of_lt_of_le hi hW.size))
  have HT := Lib.hid (fun W => stringsCompare_any W x y)
  clear hih h h' hd
  by_cases ht : textI x y = 0
  · have hm : memI x y d d' = cmpV d d' := by simp [memI, ht]
    have htb : (textI x y != 0) = false := by simp [ht]
    rw [hm]
    clear hm ht
    go_enter Try.func185, Try.ntmps185
    go_wp2_with fail
    refine (HT.out _).mono ?_
    rintro e w1 ⟨rfl, rfl⟩
    go_wp2_with fail
    refine (HIC.out _ (((Ext.refl w).alloc _ _).alloc _ _)).mono ?_
    rintro e w1 ⟨rfl, hx⟩
    have HX := Lib.hid ((((Ext.refl w).alloc _ _).alloc _ _).trans hx)
    clear hx
    go_wp2_with fail
    go_ret
    exact ⟨rfl, HX.out⟩
  · have hm : memI x y d d' = textI x y := by simp [memI, ht]
    have htb : (textI x y != 0) = true := bne_iff_ne.2 ht
    rw [hm]
    clear hm ht
    go_enter Try.func185, Try.ntmps185
    go_wp2_with fail
    refine (HT.out _).mono ?_
    rintro e w1 ⟨rfl, rfl⟩
    go_wp2_with fail
    go_ret
    exact ⟨rfl, ((Ext.refl w).alloc _ _).alloc _ _⟩
set_option maxRecDepth 100000 in
set_option maxHeartbeats 4000000 in
theorem inOrderM {m : Nat} (hih : CmpIH m) {x y : Val} (hd : SizeOf.sizeOf x ≤ m + 1) {w : World} {sl so sl' so' : Sl} (h : RV w (Lt w.heap.size) x sl so) (h' : RV w (Lt w.heap.size) y sl' so') :
    Calls Try.prog 184 #[.slice so.a x.ok.length so.c, .slice so'.a y.ok.length so'.c, .func (.func 185) #[] #[]] w (CmpPost (cmpM x.ov x.ok y.ok y.ov) w) := by
  have HI := Lib.hid hih
  clear hih
  obtain ⟨k, b, i, t, l, ok, ov⟩ := x
  obtain ⟨k', b', i', t', l', ok', ov'⟩ := y
  show Calls _ _ #[.slice so.a ok.length so.c, .slice so'.a ok'.length so'.c, _] _ (CmpPost (cmpM ov ok ok' ov') w)
  cases h with
  | mk bl fl bo fo cl co hl ho hov el rl ek eo ro bk bi bt nl no =>
  cases h' with
  | mk bo' fo' bo' fo' cl' co' hl' ho' hov' el' rl' ek' eo' ro' bk' bi' bt' nl' no' =>
  have hso : ∀ (j : Nat) (d : Val), ov[j]? = some d → SizeOf.sizeOf d ≤ m := fun j d hj => Nat.le_of_lt_succ (Nat.lt_of_lt_of_le (Val.sz_o hj) hd)
  have HSO := Lib.hid hso
  have HEO := Lib.hid eo
  have HRO := Lib.hid ro
  have HEO' := Lib.hid eo'
  have HRO' := Lib.hid ro'
  have HEK := Lib.hid ek
  have HEK' := Lib.hid ek'
  have HOV := Lib.hid hov
  have HOV' := Lib.hid hov'
  clear hso el rl ek eo ro hov hd el' rl' ek' eo' ro' hov'
  have hnl : ok.length ≤ 140737488355328 := by omega
  have hnl' : ok'.length ≤ 140737488355328 := by omega
  obtain ⟨mn, hm1, hm2, hmn1, hmn2, hmn3⟩ := min_facts ok.length ok'.length
  go_enter Try.func184, Try.ntmps184
  go_wp2_with fail
  clear hm1 hm2
  go_loopw [14] (fun q wr => ∃ j : Nat, q = .int .i64 j ∧ j ≤ mn ∧ cmpM ov ok ok' ov' = cmpM (ov.drop j) (ok.drop j) (ok'.drop j) (ov'.drop j) ∧ Ext w wr) (fun q _ => mn - (intOf q).toNat)
  case atStart => exact ⟨0, rfl, Nat.zero_le _, rfl, Ext.refl w⟩
  case round =>
    obtain ⟨j, rfl, hj, hp, hx⟩ := hrel
    have HP := Lib.hid hp
    have HX := Lib.hid hx
    by_cases h1 : j < mn
    · have g1 : (j : Int) < (mn : Int) := by omega
      have g2 : (j : Int) < (ok.length : Int) := by omega
      have g3 : (j : Int) < (ok'.length : Int) := by omega
      obtain ⟨d, hd⟩ : ∃ d, ov[j]? = some d := ⟨_, List.getElem?_eq_getElem (by rw [HOV.out]; omega)⟩
      obtain ⟨x, hxx⟩ : ∃ d, ok[j]? = some d := ⟨_, List.getElem?_eq_getElem (by omega)⟩
      obtain ⟨x', hxx'⟩ : ∃ d, ok'[j]? = some d := ⟨_, List.getElem?_eq_getElem (by omega)⟩
      obtain ⟨d', hd'⟩ : ∃ d, ov'[j]? = some d := ⟨_, List.getElem?_eq_getElem (by rw [HOV'.out]; omega)⟩
      have HD := Lib.hid (cmpM_drop2 hd hd' hxx hxx')
      have hag : Agree (Lt w.heap.size) w wr := hx.agree fun _ h => h
      obtain ⟨sa, sc⟩ := so
      obtain ⟨sa', sc'⟩ := so'
      obtain ⟨rfl, hlc, hcm⟩ := ho.eq (by omega)
      obtain ⟨rfl, hlc', hcm'⟩ := ho'.eq (by omega)
      have hbl := ho.fits (by omega)
      have hbl' := ho'.fits (by omega)
      obtain ⟨v0, v1, v2, v3, v4, v5⟩ := (HEO.out j d hd).agree hag hbl
      obtain ⟨v0', v1', v2', v3', v4', v5'⟩ := (HEO'.out j d' hd').agree hag hbl'
      have kx := (hag.cell hbl).trans (HEK.out j x hxx).1
      have kx' := (hag.cell hbl').trans (HEK'.out j x' hxx').1
      obtain ⟨c, hcc⟩ : ∃ c, memI x x' d d' = c := ⟨_, rfl⟩
      have HIC := Lib.hid (fun (W : World) (hW : Ext wr W) =>
        members_any HI.out (HSO.out j d hd) (x := x) (y := x') (((HRO.out j d hd).agree (hag.trans (hW.agree fun _ h => Nat.lt_of_lt_of_le h hx.size))).mono fun i hi => Nat.lt_of_lt_of_le hi (Nat.le_trans hx.size hW.size))
          (((HRO'.out j d' hd').agree (hag.trans (hW.agree fun _ h => Nat.lt_of_lt_of_le h hx.size))).mono fun i hi => Nat.lt_of_lt_of_le hi (Nat.le_trans hx.size hW.size)))
      have lb : bo < wr.heap.size := Nat.lt_of_lt_of_le hbl hx.size
      have lb' : bo' < wr.heap.size := Nat.lt_of_lt_of_le hbl' hx.size
      have HSS := Lib.hid (show ∀ W, Ext wr W → W.cell? ⟨bo, fo + j * 7, none⟩ = some (.string x) ∧ W.cell? ⟨bo, fo + j * 7 + 1, none⟩ = some (.int .i64 d.kind) ∧ W.cell? ⟨bo, fo + j * 7 + 2, none⟩ = some (.bool d.b) ∧ W.cell? ⟨bo, fo + j * 7 + 3, none⟩ = some (.int .i64 d.i) ∧ W.cell? ⟨bo, fo + j * 7 + 4, none⟩ = some (.string d.t) ∧ W.cell? ⟨bo, fo + j * 7 + 5, none⟩ = some (.slice (co j).1.a d.l.length (co j).1.c) ∧ W.cell? ⟨bo, fo + j * 7 + 6, none⟩ = some (.slice (co j).2.a d.ok.length (co j).2.c) ∧ W.cell? ⟨bo', fo' + j * 7, none⟩ = some (.string x') ∧ W.cell? ⟨bo', fo' + j * 7 + 1, none⟩ = some (.int .i64 d'.kind) ∧ W.cell? ⟨bo', fo' + j * 7 + 2, none⟩ = some (.bool d'.b) ∧ W.cell? ⟨bo', fo' + j * 7 + 3, none⟩ = some (.int .i64 d'.i) ∧ W.cell? ⟨bo', fo' + j * 7 + 4, none⟩ = some (.string d'.t) ∧ W.cell? ⟨bo', fo' + j * 7 + 5, none⟩ = some (.slice (co' j).1.a d'.l.length (co' j).1.c) ∧ W.cell? ⟨bo', fo' + j * 7 + 6, none⟩ = some (.slice (co' j).2.a d'.ok.length (co' j).2.c) from
        fun W hW => ⟨(hW.cell lb).trans kx, (hW.cell lb).trans v0, (hW.cell lb).trans v1, (hW.cell lb).trans v2, (hW.cell lb).trans v3, (hW.cell lb).trans v4, (hW.cell lb).trans v5, (hW.cell lb').trans kx', (hW.cell lb').trans v0', (hW.cell lb').trans v1', (hW.cell lb').trans v2', (hW.cell lb').trans v3', (hW.cell lb').trans v4', (hW.cell lb').trans v5'⟩)
      rw [hcc] at HD HIC
      clear hcc kx kx' hxx hxx' hp hx hd hd' hag hbl hbl' v0 v1 v2 v3 v4 v5 v0' v1' v2' v3' v4' v5'
      go_wp2_with fail
      refine wp_region_held_drew (S := (fun w' => Ext wr w')) (by kernel_rfl) (((Ext.refl wr).drew)) (fun hHeld => ?_)
      refine held_on (i := 0) (d := (some 17)) (v := ?_) rfl rfl (by kernel_rfl) (by kernel_rfl) (by kernel_rfl) (fun _ _ _ h => h) (by rfl) hHeld ?_ ?_
      rotate_left
      focus (intro w hSw; have hSc := HSS.out w hSw; clear hSw; go_simp; first | done | with_reducible rfl)
      try simp only [Act.put, List.setIfInBounds_toArray, List.set_cons_zero, List.set_cons_succ]
      refine held_on (i := 1) (d := (some 18)) (v := ?_) rfl rfl (by kernel_rfl) (by kernel_rfl) (by kernel_rfl) (fun _ _ _ h => h) (by rfl) hHeld ?_ ?_
      rotate_left
      focus (intro w hSw; have hSc := HSS.out w hSw; clear hSw; go_simp; first | done | with_reducible rfl)
      try simp only [Act.put, List.setIfInBounds_toArray, List.set_cons_zero, List.set_cons_succ]
      refine held_on (i := 2) (d := (some 19)) (v := ?_) rfl rfl (by kernel_rfl) (by kernel_rfl) (by kernel_rfl) (fun _ _ _ h => h) (by rfl) hHeld ?_ ?_
      rotate_left
      focus (intro w hSw; have hSc := HSS.out w hSw; clear hSw; go_simp; first | done | with_reducible rfl)
      try simp only [Act.put, List.setIfInBounds_toArray, List.set_cons_zero, List.set_cons_succ]
      refine held_on (i := 3) (d := (some 20)) (v := ?_) rfl rfl (by kernel_rfl) (by kernel_rfl) (by kernel_rfl) (fun _ _ _ h => h) (by rfl) hHeld ?_ ?_
      rotate_left
      focus (intro w hSw; have hSc := HSS.out w hSw; clear hSw; go_simp; first | done | with_reducible rfl)
      try simp only [Act.put, List.setIfInBounds_toArray, List.set_cons_zero, List.set_cons_succ]
      refine held_on (i := 4) (d := (some 21)) (v := ?_) rfl rfl (by kernel_rfl) (by kernel_rfl) (by kernel_rfl) (fun _ _ _ h => h) (by rfl) hHeld ?_ ?_
      rotate_left
      focus (intro w hSw; have hSc := HSS.out w hSw; clear hSw; go_simp; first | done | with_reducible rfl)
      try simp only [Act.put, List.setIfInBounds_toArray, List.set_cons_zero, List.set_cons_succ]
      refine held_on (i := 5) (d := (some 22)) (v := ?_) rfl rfl (by kernel_rfl) (by kernel_rfl) (by kernel_rfl) (fun _ _ _ h => h) (by rfl) hHeld ?_ ?_
      rotate_left
      focus (intro w hSw; have hSc := HSS.out w hSw; clear hSw; go_simp; first | done | with_reducible rfl)
      try simp only [Act.put, List.setIfInBounds_toArray, List.set_cons_zero, List.set_cons_succ]
      refine held_on (i := 6) (d := (some 23)) (v := ?_) rfl rfl (by kernel_rfl) (by kernel_rfl) (by kernel_rfl) (fun _ _ _ h => h) (by rfl) hHeld ?_ ?_
      rotate_left
      focus (intro w hSw; have hSc := HSS.out w hSw; clear hSw; go_simp; first | done | with_reducible rfl)
      try simp only [Act.put, List.setIfInBounds_toArray, List.set_cons_zero, List.set_cons_succ]
      refine held_on (i := 7) (d := (some 24)) (v := ?_) rfl rfl (by kernel_rfl) (by kernel_rfl) (by kernel_rfl) (fun _ _ _ h => h) (by rfl) hHeld ?_ ?_
      rotate_left
      focus (intro w hSw; have hSc := HSS.out w hSw; clear hSw; go_simp; first | done | with_reducible rfl)
      try simp only [Act.put, List.setIfInBounds_toArray, List.set_cons_zero, List.set_cons_succ]
      refine held_on (i := 8) (d := (some 25)) (v := ?_) rfl rfl (by kernel_rfl) (by kernel_rfl) (by kernel_rfl) (fun _ _ _ h => h) (by rfl) hHeld ?_ ?_
      rotate_left
      focus (intro w hSw; have hSc := HSS.out w hSw; clear hSw; go_simp; first | done | with_reducible rfl)
      try simp only [Act.put, List.setIfInBounds_toArray, List.set_cons_zero, List.set_cons_succ]
      refine held_call (i := 9) (by kernel_rfl) rfl (by rfl) (fun K hK => ?_)
      go_simp
      (refine (HIC.out _ hHeld).mono ?_; rintro e w2 ⟨rfl, hx2⟩)
      refine hK.out _ _ (hHeld.trans hx2) (fun hHeld => ?_)
      clear hK K
      try simp only [Act.put, List.setIfInBounds_toArray, List.set_cons_zero, List.set_cons_succ]
      refine held_on (i := 10) (d := (some 8)) (v := ?_) rfl rfl (by kernel_rfl) (by kernel_rfl) (by kernel_rfl) (fun _ _ _ h => h) (by rfl) hHeld ?_ ?_
      rotate_left
      focus (intro w hSw; have hSc := HSS.out w hSw; clear hSw; go_simp; first | done | with_reducible rfl)
      try simp only [Act.put, List.setIfInBounds_toArray, List.set_cons_zero, List.set_cons_succ]
      refine wpAnyH_done (by kernel_rfl) ?_ _
      have HX2 := Lib.hid (HX.out.trans hHeld)
      clear hHeld hx2
      by_cases hc : c = 0
      · have hcb : (c != 0) = false := by simp [hc]
        have HC := Lib.hid hc
        clear hc
        go_wp2_with fail
        go_roundw
        case rel => exact ⟨j + 1, by go_num, h1, by rw [HP.out, HD.out, if_neg (by simp [HC.out])], HX2.out⟩
        case measure => simp [intOf]; omega
      · have hcb : (c != 0) = true := bne_iff_ne.2 hc
        have HC := Lib.hid hc
        clear hc
        go_wp2_with fail
        go_ret
        rw [HP.out, HD.out, if_pos HC.out]
        exact ⟨rfl, HX2.out⟩
    · have g1 : ¬ (j : Int) < (mn : Int) := by omega
      have HE := Lib.hid (cmpM_end (l := ov) (l' := ov') (k := ok) (k' := ok') (j := j) (by rw [HOV.out, HOV'.out]; omega) (by rw [HOV.out]; omega) (by rw [HOV'.out]; omega))
      have hcm := compareint_any wr (ok.length : Int) (ok'.length : Int)
      clear hp hx
      go_wp2_with fail
      refine hcm.mono ?_
      rintro e w2 ⟨rfl, rfl⟩
      go_wp2_with fail
      go_ret
      rw [HP.out, HE.out, HOV.out, HOV'.out]
      exact ⟨rfl, HX.out⟩
end Go.Proofs.Ytpapoalgocmlaaa
