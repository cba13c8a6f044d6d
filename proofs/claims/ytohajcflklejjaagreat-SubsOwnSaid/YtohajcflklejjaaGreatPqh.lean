/- What the theorem needs of the texts RefS27, Again, After, Known27, TrodQ: no condition of its own. -/
import Derived.Deep.RegionLaw
import Derived.Lib.SliceRun
import Derived.Laws.IdiomStrings
import Derived.WalkArith
import Derived.OrdersIn
import Derived.Sort.CutIn
import Derived.Test.YtohajcflklejjaaGreatPqa
import Derived.Test.YtohajcflklejjaaGreatPqb
import Derived.Test.YtohajcflklejjaaGreatPqc
import Derived.Test.YtohajcflklejjaaGreatPqd
import Derived.Test.YtohajcflklejjaaGreatPqe
import Derived.Test.YtohajcflklejjaaGreatPqf
import Derived.Test.YtohajcflklejjaaGreatPqg
namespace Go.Proofs.YtohajcflklejjaaGreat
open Go.RowKit Go.Shelf
set_option linter.unusedVariables false
set_option linter.unusedSimpArgs false
theorem e16_of {W : World} {b p : Nat} {x : EV} (h : ∀ c u, x.cells.toList[c]? = some u → W.cell? ⟨b, p + c, none⟩ = some u) :
    W.cell? ⟨b, p, none⟩ = some (.int .u64 (x.id : Int)) ∧ W.cell? ⟨b, p + 1, none⟩ = some (.string x.x.c.k) ∧ W.cell? ⟨b, p + 2, none⟩ = some (.bool x.x.c.had) ∧ W.cell? ⟨b, p + 3, none⟩ = some (.int .i64 x.x.c.was.kind) ∧ W.cell? ⟨b, p + 4, none⟩ = some (.bool x.x.c.was.b) ∧ W.cell? ⟨b, p + 5, none⟩ = some (.int .i64 x.x.c.was.i) ∧ W.cell? ⟨b, p + 6, none⟩ = some (.string x.x.c.was.t) ∧ W.cell? ⟨b, p + 7, none⟩ = some (.slice x.x.slw.a x.x.c.was.l.length x.x.slw.c) ∧ W.cell? ⟨b, p + 8, none⟩ = some (.slice x.x.sow.a x.x.c.was.ok.length x.x.sow.c) ∧ W.cell? ⟨b, p + 9, none⟩ = some (.bool x.x.c.has) ∧ W.cell? ⟨b, p + 10, none⟩ = some (.int .i64 x.x.c.is_.kind) ∧ W.cell? ⟨b, p + 11, none⟩ = some (.bool x.x.c.is_.b) ∧ W.cell? ⟨b, p + 12, none⟩ = some (.int .i64 x.x.c.is_.i) ∧ W.cell? ⟨b, p + 13, none⟩ = some (.string x.x.c.is_.t) ∧ W.cell? ⟨b, p + 14, none⟩ = some (.slice x.x.sli.a x.x.c.is_.l.length x.x.sli.c) ∧ W.cell? ⟨b, p + 15, none⟩ = some (.slice x.x.soi.a x.x.c.is_.ok.length x.x.soi.c) :=
  ⟨h 0 _ rfl, h 1 _ rfl, h 2 _ rfl, h 3 _ rfl, h 4 _ rfl, h 5 _ rfl, h 6 _ rfl, h 7 _ rfl, h 8 _ rfl, h 9 _ rfl, h 10 _ rfl, h 11 _ rfl, h 12 _ rfl, h 13 _ rfl, h 14 _ rfl, h 15 _ rfl⟩
theorem flatV_at {xs : List EV} {i : Nat} {x : EV} (hx : xs[i]? = some x) {c : Nat} (hc : c < 16) : (flatV xs)[i * 16 + c]? = x.cells.toList[c]? := by
  have hsp : flatV xs = flatV (xs.take i) ++ (x.cells.toList ++ flatV (xs.drop (i + 1))) := by
    have e : xs = xs.take i ++ x :: xs.drop (i + 1) := by
      obtain ⟨h1, h2⟩ := List.getElem?_eq_some_iff.1 hx
      conv => lhs; rw [← List.take_append_drop i xs, List.drop_eq_getElem_cons h1, h2]
    conv => lhs; rw [e]
    simp [flatV]
  have hi : i < xs.length := (List.getElem?_eq_some_iff.1 hx).1
  have hl : (flatV (xs.take i)).length = i * 16 := by rw [flatV_len, List.length_take]; congr 1; omega
  rw [hsp, List.getElem?_append_right (by rw [hl]; omega), hl, show i * 16 + c - i * 16 = c from by omega, List.getElem?_append_left (by simpa using hc)]
theorem EVS.at {w : World} {F : Nat → Prop} {s : Sl} {xs : List EV} (h : EVS w F s xs) {i : Nat} {x : EV} (hx : xs[i]? = some x) :
    ∃ b o, s.a = some ⟨b, o, none⟩ ∧ F b ∧ xs.length ≤ s.c ∧ s.c ≤ maxLen ∧ CR w F x.x ∧ ∀ c u, x.cells.toList[c]? = some u → w.cell? ⟨b, o + i * 16 + c, none⟩ = some u := by
  obtain ⟨b, o, h1, h2, h3⟩ := h.rd
  have hi : i < xs.length := (List.getElem?_eq_some_iff.1 hx).1
  obtain ⟨e1, e2, e3⟩ := h1.eq (by omega)
  refine ⟨b, o, e1, h1.fits (by omega), e2, e3, h.vals x (List.mem_of_getElem? hx), fun c u hu => ?_⟩
  have hc : c < 16 := (List.getElem?_eq_some_iff.1 hu).1
  have := h3 (i * 16 + c) u (by rw [flatV_at hx hc]; exact hu)
  rwa [Nat.add_assoc]
set_option maxRecDepth 100000 in
set_option maxHeartbeats 4000000 in
theorem refSame27_any {w : World} {s s' : Sl} {xs ys : List EV} (hs : EVS w (Lt w.heap.size) s xs) (hs' : EVS w (Lt w.heap.size) s' ys) (he : xs.map EV.p = ys.map EV.p) :
    Calls Tryz.prog 30 #[.slice s.a xs.length s.c, .slice s'.a ys.length s'.c] w fun e w' => e = .returned (.bool true) ∧ Ext w w' := by
  have hf := hs.few
  have hnl : xs.length ≤ 140737488355328 := by omega
  have hlen : xs.length = ys.length := by have := congrArg List.length he; simpa using this
  have HS := Lib.hid hs
  have HS' := Lib.hid hs'
  have HE := Lib.hid he
  have HLEN := Lib.hid hlen
  rw [← hlen]
  clear hs hs' he hlen hf
  go_enter Tryz.func30, Tryz.ntmps30
  go_wp2_with fail
  go_loopw [5] (fun q wr => ∃ j : Nat, q = .int .i64 j ∧ j ≤ xs.length ∧ Ext w wr) (fun q _ => xs.length - (intOf q).toNat)
  case atStart => exact ⟨0, rfl, Nat.zero_le _, Ext.refl w⟩
  case round =>
    obtain ⟨j, rfl, hjl, hx⟩ := hrel
    have HXS := Lib.hid hx
    by_cases h1 : j < xs.length
    · have g1 : (j : Int) < (xs.length : Int) := by omega
      obtain ⟨x, hxx⟩ : ∃ x, xs[j]? = some x := ⟨_, List.getElem?_eq_getElem h1⟩
      obtain ⟨y, hyy⟩ : ∃ y, ys[j]? = some y := ⟨_, List.getElem?_eq_getElem (by rw [← HLEN.out]; exact h1)⟩
      have hxy : x.p = y.p := by
        have h1 : (xs.map EV.p)[j]? = some x.p := by rw [List.getElem?_map, hxx]; rfl
        have h2 : (ys.map EV.p)[j]? = some y.p := by rw [List.getElem?_map, hyy]; rfl
        rw [HE.out, h2] at h1
        exact (Option.some.inj h1).symm
      obtain ⟨b, o, hg, lb, hc, hcm, hcr, hcl⟩ := HS.out.at hxx
      obtain ⟨b', o', hg', lb', hc', hcm', hcr', hcl'⟩ := HS'.out.at hyy
      rw [← HLEN.out] at hc'
      obtain ⟨id, ⟨⟨k, had, was, has, is_⟩, slw, sow, sli, soi⟩⟩ := x
      obtain ⟨yid, ⟨yc, yslw, ysow, ysli, ysoi⟩⟩ := y
      obtain ⟨hxi, hxc⟩ := Prod.mk.inj hxy
      dsimp only at hxi hxc
      subst hxi hxc
      obtain ⟨sa, sc⟩ := s
      obtain ⟨sa', sc'⟩ := s'
      dsimp only at hg hg' hc hc' hcm hcm'
      subst hg hg'
      have lb : b < wr.heap.size := Nat.lt_of_lt_of_le lb hx.size
      have lb' : b' < wr.heap.size := Nat.lt_of_lt_of_le lb' hx.size
      have hag : Agree (Lt w.heap.size) w wr := hx.agree fun _ h => h
      have hsm : ∀ (W : World) (b1 b2 : Nat), Ext wr W → Blk W b1 54 (CE.cells ⟨⟨k, had, was, has, is_⟩, slw, sow, sli, soi⟩) → Blk W b2 54 (CE.cells ⟨⟨k, had, was, has, is_⟩, yslw, ysow, ysli, ysoi⟩) →
          Calls Tryz.prog 61 #[.slice (some ⟨b1, 0, none⟩) 1 1, .slice (some ⟨b2, 0, none⟩) 1 1] W fun e w' => e = .returned (.bool true) ∧ Ext W w' := fun W b1 b2 hW h1 h2 => by
        have hag2 : Agree (Lt w.heap.size) w W := hag.trans (hW.agree fun b hb => Nat.lt_of_lt_of_le hb hx.size)
        have hlt : ∀ i, Lt w.heap.size i → Lt W.heap.size i := fun i hi => Nat.lt_of_lt_of_le hi (Nat.le_trans hx.size hW.size)
        exact same9_refl (s := ⟨some ⟨b1, 0, none⟩, 1⟩) (s' := ⟨some ⟨b2, 0, none⟩, 1⟩) (xs := [⟨⟨k, had, was, has, is_⟩, slw, sow, sli, soi⟩]) (ys := [⟨⟨k, had, was, has, is_⟩, yslw, ysow, ysli, ysoi⟩])
          ⟨(Rd.block (cs := flatC [_]) (n := 1) (size := 15) (by simpa [flatC] using h1) (by decide) (by simp [flatC])).mono fun i hi => by subst hi; exact h1.lt, fun u hu => by obtain rfl := List.mem_singleton.1 hu; exact (hcr.agree hag2).mono hlt, by simp⟩
          ⟨(Rd.block (cs := flatC [_]) (n := 1) (size := 15) (by simpa [flatC] using h2) (by decide) (by simp [flatC])).mono fun i hi => by subst hi; exact h2.lt, fun u hu => by obtain rfl := List.mem_singleton.1 hu; exact (hcr'.agree hag2).mono hlt, by simp⟩ rfl
      have hX := fun (W : World) (hW : Ext wr W) => e16_of (x := ⟨id, ⟨⟨k, had, was, has, is_⟩, slw, sow, sli, soi⟩⟩) fun c u hu => (hW.cell lb).trans ((hx.cell (by assumption)).trans (hcl c u hu))
      have hY := fun (W : World) (hW : Ext wr W) => e16_of (x := ⟨id, ⟨⟨k, had, was, has, is_⟩, yslw, ysow, ysli, ysoi⟩⟩) fun c u hu => (hW.cell lb').trans ((hx.cell (by assumption)).trans (hcl' c u hu))
      have HX0 := Lib.hid (show ∀ W, Ext wr W → W.cell? ⟨b, o + j * 16, none⟩ = some (.int .u64 (id : Int)) from fun W hW => (hX W hW).1)
      have HY0 := Lib.hid (show ∀ W, Ext wr W → W.cell? ⟨b', o' + j * 16, none⟩ = some (.int .u64 (id : Int)) from fun W hW => (hY W hW).1)
      have HX1 := Lib.hid (show ∀ W, Ext wr W → (W.cell? ⟨b, o + j * 16 + 1, none⟩ = some (.string k) ∧ W.cell? ⟨b, o + j * 16 + 2, none⟩ = some (.bool had) ∧ W.cell? ⟨b, o + j * 16 + 3, none⟩ = some (.int .i64 was.kind) ∧ W.cell? ⟨b, o + j * 16 + 4, none⟩ = some (.bool was.b) ∧ W.cell? ⟨b, o + j * 16 + 5, none⟩ = some (.int .i64 was.i) ∧ W.cell? ⟨b, o + j * 16 + 6, none⟩ = some (.string was.t) ∧ W.cell? ⟨b, o + j * 16 + 7, none⟩ = some (.slice slw.a was.l.length slw.c) ∧ W.cell? ⟨b, o + j * 16 + 8, none⟩ = some (.slice sow.a was.ok.length sow.c) ∧ W.cell? ⟨b, o + j * 16 + 9, none⟩ = some (.bool has) ∧ W.cell? ⟨b, o + j * 16 + 10, none⟩ = some (.int .i64 is_.kind) ∧ W.cell? ⟨b, o + j * 16 + 11, none⟩ = some (.bool is_.b) ∧ W.cell? ⟨b, o + j * 16 + 12, none⟩ = some (.int .i64 is_.i) ∧ W.cell? ⟨b, o + j * 16 + 13, none⟩ = some (.string is_.t) ∧ W.cell? ⟨b, o + j * 16 + 14, none⟩ = some (.slice sli.a is_.l.length sli.c) ∧ W.cell? ⟨b, o + j * 16 + 15, none⟩ = some (.slice soi.a is_.ok.length soi.c)) from fun W hW => (hX W hW).2)
      have HY1 := Lib.hid (show ∀ W, Ext wr W → (W.cell? ⟨b', o' + j * 16 + 1, none⟩ = some (.string k) ∧ W.cell? ⟨b', o' + j * 16 + 2, none⟩ = some (.bool had) ∧ W.cell? ⟨b', o' + j * 16 + 3, none⟩ = some (.int .i64 was.kind) ∧ W.cell? ⟨b', o' + j * 16 + 4, none⟩ = some (.bool was.b) ∧ W.cell? ⟨b', o' + j * 16 + 5, none⟩ = some (.int .i64 was.i) ∧ W.cell? ⟨b', o' + j * 16 + 6, none⟩ = some (.string was.t) ∧ W.cell? ⟨b', o' + j * 16 + 7, none⟩ = some (.slice yslw.a was.l.length yslw.c) ∧ W.cell? ⟨b', o' + j * 16 + 8, none⟩ = some (.slice ysow.a was.ok.length ysow.c) ∧ W.cell? ⟨b', o' + j * 16 + 9, none⟩ = some (.bool has) ∧ W.cell? ⟨b', o' + j * 16 + 10, none⟩ = some (.int .i64 is_.kind) ∧ W.cell? ⟨b', o' + j * 16 + 11, none⟩ = some (.bool is_.b) ∧ W.cell? ⟨b', o' + j * 16 + 12, none⟩ = some (.int .i64 is_.i) ∧ W.cell? ⟨b', o' + j * 16 + 13, none⟩ = some (.string is_.t) ∧ W.cell? ⟨b', o' + j * 16 + 14, none⟩ = some (.slice ysli.a is_.l.length ysli.c) ∧ W.cell? ⟨b', o' + j * 16 + 15, none⟩ = some (.slice ysoi.a is_.ok.length ysoi.c)) from fun W hW => (hY W hW).2)
      have h12 : ∀ (X Y : Array Value), Ext wr ((wr.alloc (.cells X 54)).alloc (.cells Y 54)).drew ∧ Blk ((wr.alloc (.cells X 54)).alloc (.cells Y 54)).drew wr.heap.size 54 X ∧ Blk ((wr.alloc (.cells X 54)).alloc (.cells Y 54)).drew (wr.heap.size + 1) 54 Y := fun X Y =>
        ⟨(((Ext.refl wr).alloc _ _).alloc _ _).drew, ((Blk.new wr _ _).ext ((Ext.refl _).alloc _ _)).ext ((Ext.refl _).drew), by
          have := Blk.new (wr.alloc (.cells X 54)) 54 Y
          rw [World.size_alloc] at this
          exact this.ext ((Ext.refl _).drew)⟩
      have hsm1 := hsm _ _ _ (h12 (CE.cells ⟨⟨k, had, was, has, is_⟩, slw, sow, sli, soi⟩) (CE.cells ⟨⟨k, had, was, has, is_⟩, yslw, ysow, ysli, ysoi⟩)).1 (h12 _ _).2.1 (h12 _ _).2.2
      have hsm2 := hsm _ _ _ (h12 (CE.cells ⟨⟨k, had, was, has, is_⟩, yslw, ysow, ysli, ysoi⟩) (CE.cells ⟨⟨k, had, was, has, is_⟩, slw, sow, sli, soi⟩)).1 (h12 _ _).2.2 (h12 _ _).2.1
      dsimp only [CE.cells] at hsm1 hsm2
      have HSM1 := Lib.hid hsm1
      have HSM2 := Lib.hid hsm2
      have hid : ((id : Int) != (id : Int)) = false := by simp
      clear hx hX hY hxx hyy hcr hcr' hcl hcl' hag hsm hxy h12 hsm1 hsm2
      go_wp2_with fail
      refine wp_region_held_drew (S := (fun w' => Ext wr w')) (by kernel_rfl) (((Ext.refl wr).drew)) (fun hHeld => ?_)
      refine held_on (i := 0) (d := (some 17)) (v := ?_) rfl rfl (by kernel_rfl) (by kernel_rfl) (by kernel_rfl) (fun _ _ _ h => h) (by rfl) hHeld ?_ ?_
      rotate_left
      focus (intro w hSw; (try dsimp only at hSw); go_simp; first | done | with_reducible rfl)
      try simp only [Act.put, List.setIfInBounds_toArray, List.set_cons_zero, List.set_cons_succ]
      refine held_on (i := 1) (d := (some 18)) (v := ?_) rfl rfl (by kernel_rfl) (by kernel_rfl) (by kernel_rfl) (fun _ _ _ h => h) (by rfl) hHeld ?_ ?_
      rotate_left
      focus (intro w hSw; (try dsimp only at hSw); go_simp; first | done | with_reducible rfl)
      try simp only [Act.put, List.setIfInBounds_toArray, List.set_cons_zero, List.set_cons_succ]
      refine held_on (i := 2) (d := (some 19)) (v := ?_) rfl rfl (by kernel_rfl) (by kernel_rfl) (by kernel_rfl) (fun _ _ _ h => h) (by rfl) hHeld ?_ ?_
      rotate_left
      focus (intro w hSw; (try dsimp only at hSw); go_simp; first | done | with_reducible rfl)
      try simp only [Act.put, List.setIfInBounds_toArray, List.set_cons_zero, List.set_cons_succ]
      refine held_on (i := 3) (d := (some 20)) (v := ?_) rfl rfl (by kernel_rfl) (by kernel_rfl) (by kernel_rfl) (fun _ _ _ h => h) (by rfl) hHeld ?_ ?_
      rotate_left
      focus (intro w hSw; (try dsimp only at hSw); go_simp; first | done | with_reducible rfl)
      try simp only [Act.put, List.setIfInBounds_toArray, List.set_cons_zero, List.set_cons_succ]
      refine held_on (i := 4) (d := (some 21)) (v := ?_) rfl rfl (by kernel_rfl) (by kernel_rfl) (by kernel_rfl) (fun _ _ _ h => h) (by rfl) hHeld ?_ ?_
      rotate_left
      focus (intro w hSw; have hSc := HX0.out w hSw; clear hSw; go_simp; first | done | with_reducible rfl)
      try simp only [Act.put, List.setIfInBounds_toArray, List.set_cons_zero, List.set_cons_succ]
      refine held_on (i := 5) (d := (some 22)) (v := ?_) rfl rfl (by kernel_rfl) (by kernel_rfl) (by kernel_rfl) (fun _ _ _ h => h) (by rfl) hHeld ?_ ?_
      rotate_left
      focus (intro w hSw; (try dsimp only at hSw); go_simp; first | done | with_reducible rfl)
      try simp only [Act.put, List.setIfInBounds_toArray, List.set_cons_zero, List.set_cons_succ]
      refine held_on (i := 6) (d := (some 23)) (v := ?_) rfl rfl (by kernel_rfl) (by kernel_rfl) (by kernel_rfl) (fun _ _ _ h => h) (by rfl) hHeld ?_ ?_
      rotate_left
      focus (intro w hSw; (try dsimp only at hSw); go_simp; first | done | with_reducible rfl)
      try simp only [Act.put, List.setIfInBounds_toArray, List.set_cons_zero, List.set_cons_succ]
      refine held_on (i := 7) (d := (some 24)) (v := ?_) rfl rfl (by kernel_rfl) (by kernel_rfl) (by kernel_rfl) (fun _ _ _ h => h) (by rfl) hHeld ?_ ?_
      rotate_left
      focus (intro w hSw; (try dsimp only at hSw); go_simp; first | done | with_reducible rfl)
      try simp only [Act.put, List.setIfInBounds_toArray, List.set_cons_zero, List.set_cons_succ]
      refine held_on (i := 8) (d := (some 25)) (v := ?_) rfl rfl (by kernel_rfl) (by kernel_rfl) (by kernel_rfl) (fun _ _ _ h => h) (by rfl) hHeld ?_ ?_
      rotate_left
      focus (intro w hSw; (try dsimp only at hSw); go_simp; first | done | with_reducible rfl)
      try simp only [Act.put, List.setIfInBounds_toArray, List.set_cons_zero, List.set_cons_succ]
      refine held_on (i := 9) (d := (some 26)) (v := ?_) rfl rfl (by kernel_rfl) (by kernel_rfl) (by kernel_rfl) (fun _ _ _ h => h) (by rfl) hHeld ?_ ?_
      rotate_left
      focus (intro w hSw; have hSc := HY0.out w hSw; clear hSw; go_simp; first | done | with_reducible rfl)
      try simp only [Act.put, List.setIfInBounds_toArray, List.set_cons_zero, List.set_cons_succ]
      refine held_on (i := 10) (d := (some 27)) (v := ?_) rfl rfl (by kernel_rfl) (by kernel_rfl) (by kernel_rfl) (fun _ _ _ h => h) (by rfl) hHeld ?_ ?_
      rotate_left
      focus (intro w hSw; (try dsimp only at hSw); go_simp; first | done | with_reducible rfl)
      try simp only [Act.put, List.setIfInBounds_toArray, List.set_cons_zero, List.set_cons_succ]
      refine held_on (i := 11) (d := (some 28)) (v := ?_) rfl rfl (by kernel_rfl) (by kernel_rfl) (by kernel_rfl) (fun _ _ _ h => h) (by rfl) hHeld ?_ ?_
      rotate_left
      focus (intro w hSw; (try dsimp only at hSw); go_simp; first | done | with_reducible rfl)
      try simp only [Act.put, List.setIfInBounds_toArray, List.set_cons_zero, List.set_cons_succ]
      refine held_on (i := 12) (d := (some 29)) (v := ?_) rfl rfl (by kernel_rfl) (by kernel_rfl) (by kernel_rfl) (fun _ _ _ h => h) (by rfl) hHeld ?_ ?_
      rotate_left
      focus (intro w hSw; (try dsimp only at hSw); go_simp; first | done | with_reducible rfl)
      try simp only [Act.put, List.setIfInBounds_toArray, List.set_cons_zero, List.set_cons_succ]
      refine held_on (i := 13) (d := (some 30)) (v := ?_) rfl rfl (by kernel_rfl) (by kernel_rfl) (by kernel_rfl) (fun _ _ _ h => h) (by rfl) hHeld ?_ ?_
      rotate_left
      focus (intro w hSw; (try dsimp only at hSw); go_simp; first | done | with_reducible rfl)
      try simp only [Act.put, List.setIfInBounds_toArray, List.set_cons_zero, List.set_cons_succ]
      refine held_on (i := 14) (d := (some 31)) (v := ?_) rfl rfl (by kernel_rfl) (by kernel_rfl) (by kernel_rfl) (fun _ _ _ h => h) (by rfl) hHeld ?_ ?_
      rotate_left
      focus (intro w hSw; (try dsimp only at hSw); go_simp; first | done | with_reducible rfl)
      try simp only [Act.put, List.setIfInBounds_toArray, List.set_cons_zero, List.set_cons_succ]
      refine held_on (i := 15) (d := (some 32)) (v := ?_) rfl rfl (by kernel_rfl) (by kernel_rfl) (by kernel_rfl) (fun _ _ _ h => h) (by rfl) hHeld ?_ ?_
      rotate_left
      focus (intro w hSw; (try dsimp only at hSw); go_simp; first | done | with_reducible rfl)
      try simp only [Act.put, List.setIfInBounds_toArray, List.set_cons_zero, List.set_cons_succ]
      refine held_on (i := 16) (d := (some 33)) (v := ?_) rfl rfl (by kernel_rfl) (by kernel_rfl) (by kernel_rfl) (fun _ _ _ h => h) (by rfl) hHeld ?_ ?_
      rotate_left
      focus (intro w hSw; have hSc := HX1.out w hSw; clear hSw; go_simp; first | done | with_reducible rfl)
      try simp only [Act.put, List.setIfInBounds_toArray, List.set_cons_zero, List.set_cons_succ]
      refine held_on (i := 18) (d := (some 35)) (v := ?_) rfl rfl (by kernel_rfl) (by kernel_rfl) (by kernel_rfl) (fun _ _ _ h => h) (by rfl) hHeld ?_ ?_
      rotate_left
      focus (intro w hSw; (try dsimp only at hSw); go_simp; first | done | with_reducible rfl)
      try simp only [Act.put, List.setIfInBounds_toArray, List.set_cons_zero, List.set_cons_succ]
      refine held_on (i := 19) (d := (some 36)) (v := ?_) rfl rfl (by kernel_rfl) (by kernel_rfl) (by kernel_rfl) (fun _ _ _ h => h) (by rfl) hHeld ?_ ?_
      rotate_left
      focus (intro w hSw; (try dsimp only at hSw); go_simp; first | done | with_reducible rfl)
      try simp only [Act.put, List.setIfInBounds_toArray, List.set_cons_zero, List.set_cons_succ]
      refine held_on (i := 20) (d := (some 37)) (v := ?_) rfl rfl (by kernel_rfl) (by kernel_rfl) (by kernel_rfl) (fun _ _ _ h => h) (by rfl) hHeld ?_ ?_
      rotate_left
      focus (intro w hSw; (try dsimp only at hSw); go_simp; first | done | with_reducible rfl)
      try simp only [Act.put, List.setIfInBounds_toArray, List.set_cons_zero, List.set_cons_succ]
      refine held_on (i := 21) (d := (some 38)) (v := ?_) rfl rfl (by kernel_rfl) (by kernel_rfl) (by kernel_rfl) (fun _ _ _ h => h) (by rfl) hHeld ?_ ?_
      rotate_left
      focus (intro w hSw; (try dsimp only at hSw); go_simp; first | done | with_reducible rfl)
      try simp only [Act.put, List.setIfInBounds_toArray, List.set_cons_zero, List.set_cons_succ]
      refine held_on (i := 22) (d := (some 39)) (v := ?_) rfl rfl (by kernel_rfl) (by kernel_rfl) (by kernel_rfl) (fun _ _ _ h => h) (by rfl) hHeld ?_ ?_
      rotate_left
      focus (intro w hSw; have hSc := HY1.out w hSw; clear hSw; go_simp; first | done | with_reducible rfl)
      try simp only [Act.put, List.setIfInBounds_toArray, List.set_cons_zero, List.set_cons_succ]
      refine held_two (i := 17) (j := 23) (by kernel_rfl) rfl rfl (by rfl) (by rfl) (fun K hK => ?_) (fun K hK => ?_)
      · go_simp
        skip
        refine hK.out _ _ (hHeld.alloc _ _) (fun hHeld => ?_)
        clear hK K
        try simp only [Act.put, List.setIfInBounds_toArray, List.set_cons_zero, List.set_cons_succ]
        refine held_call (i := 23) (by kernel_rfl) rfl (by rfl) (fun K hK => ?_)
        go_simp
        skip
        refine hK.out _ _ (hHeld.alloc _ _) (fun hHeld => ?_)
        clear hK K
        try simp only [Act.put, List.setIfInBounds_toArray, List.set_cons_zero, List.set_cons_succ]
        refine held_call (i := 24) (by kernel_rfl) rfl (by rfl) (fun K hK => ?_)
        go_simp
        (refine HSM1.out.mono ?_; rintro e w6 ⟨rfl, hx6⟩)
        refine hK.out _ _ (hHeld.trans hx6) (fun hHeld => ?_)
        clear hK K
        try simp only [Act.put, List.setIfInBounds_toArray, List.set_cons_zero, List.set_cons_succ]
        refine held_on (i := 25) (d := (some 42)) (v := ?_) rfl rfl (by kernel_rfl) (by kernel_rfl) (by kernel_rfl) (fun _ _ _ h => h) (by rfl) hHeld ?_ ?_
        rotate_left
        focus (intro w hSw; (try dsimp only at hSw); go_simp; first | done | with_reducible rfl)
        try simp only [Act.put, List.setIfInBounds_toArray, List.set_cons_zero, List.set_cons_succ]
        refine held_on (i := 26) (d := (some 43)) (v := ?_) rfl rfl (by kernel_rfl) (by kernel_rfl) (by kernel_rfl) (fun _ _ _ h => h) (by rfl) hHeld ?_ ?_
        rotate_left
        focus (intro w hSw; (try dsimp only at hSw); go_simp; first | done | with_reducible rfl)
        try simp only [Act.put, List.setIfInBounds_toArray, List.set_cons_zero, List.set_cons_succ]
        refine wpAnyH_done (by kernel_rfl) ?_ _
        skip
        have HH := Lib.hid hHeld
        clear hHeld
        go_wp2_with fail
        go_roundw
        case rel => exact ⟨j + 1, by go_num, h1, HXS.out.trans HH.out⟩
        case measure => simp [intOf]; omega
      · go_simp
        skip
        refine hK.out _ _ (hHeld.alloc _ _) (fun hHeld => ?_)
        clear hK K
        try simp only [Act.put, List.setIfInBounds_toArray, List.set_cons_zero, List.set_cons_succ]
        refine held_call (i := 17) (by kernel_rfl) rfl (by rfl) (fun K hK => ?_)
        go_simp
        skip
        refine hK.out _ _ (hHeld.alloc _ _) (fun hHeld => ?_)
        clear hK K
        try simp only [Act.put, List.setIfInBounds_toArray, List.set_cons_zero, List.set_cons_succ]
        refine held_call (i := 24) (by kernel_rfl) rfl (by rfl) (fun K hK => ?_)
        go_simp
        (refine HSM2.out.mono ?_; rintro e w6 ⟨rfl, hx6⟩)
        refine hK.out _ _ (hHeld.trans hx6) (fun hHeld => ?_)
        clear hK K
        try simp only [Act.put, List.setIfInBounds_toArray, List.set_cons_zero, List.set_cons_succ]
        refine held_on (i := 25) (d := (some 42)) (v := ?_) rfl rfl (by kernel_rfl) (by kernel_rfl) (by kernel_rfl) (fun _ _ _ h => h) (by rfl) hHeld ?_ ?_
        rotate_left
        focus (intro w hSw; (try dsimp only at hSw); go_simp; first | done | with_reducible rfl)
        try simp only [Act.put, List.setIfInBounds_toArray, List.set_cons_zero, List.set_cons_succ]
        refine held_on (i := 26) (d := (some 43)) (v := ?_) rfl rfl (by kernel_rfl) (by kernel_rfl) (by kernel_rfl) (fun _ _ _ h => h) (by rfl) hHeld ?_ ?_
        rotate_left
        focus (intro w hSw; (try dsimp only at hSw); go_simp; first | done | with_reducible rfl)
        try simp only [Act.put, List.setIfInBounds_toArray, List.set_cons_zero, List.set_cons_succ]
        refine wpAnyH_done (by kernel_rfl) ?_ _
        skip
        have HH := Lib.hid hHeld
        clear hHeld
        go_wp2_with fail
        go_roundw
        case rel => exact ⟨j + 1, by go_num, h1, HXS.out.trans HH.out⟩
        case measure => simp [intOf]; omega
    · have g1 : ¬ (j : Int) < (xs.length : Int) := by omega
      obtain rfl : j = xs.length := by omega
      go_wp2_with fail
      go_ret
      exact ⟨rfl, hx⟩
end Go.Proofs.YtohajcflklejjaaGreat
namespace Go.Proofs.YtohajcflklejjaaGreat
open Go.RowKit
set_option linter.unusedVariables false
set_option linter.unusedSimpArgs false
theorem five_blocks (w : World) (t0 t1 t2 t3 t4 : TypeId) (c0 c1 c2 c3 c4 : Array Value) : ∀ W, ((((w.alloc (.cells c0 t0)).alloc (.cells c1 t1)).alloc (.cells c2 t2)).alloc (.cells c3 t3)).alloc (.cells c4 t4) = W →
    Ext w W ∧ W.heap.size = w.heap.size + 5 ∧ Blk W w.heap.size t0 c0 ∧ Blk W (w.heap.size + 1) t1 c1 ∧ Blk W (w.heap.size + 2) t2 c2 ∧ Blk W (w.heap.size + 3) t3 c3 ∧ Blk W (w.heap.size + 4) t4 c4 := by
  intro W hW
  obtain ⟨hx, hz, b0, b1, b2, b3⟩ := four_blocks w t0 t1 t2 t3 c0 c1 c2 c3 _ rfl
  have hx2 : Ext ((((w.alloc (.cells c0 t0)).alloc (.cells c1 t1)).alloc (.cells c2 t2)).alloc (.cells c3 t3)) W := by rw [← hW]; exact (Ext.refl _).alloc _ _
  have h4 := Blk.new ((((w.alloc (.cells c0 t0)).alloc (.cells c1 t1)).alloc (.cells c2 t2)).alloc (.cells c3 t3)) t4 c4
  rw [hW, hz] at h4
  exact ⟨hx.trans hx2, by rw [← hW]; simp [hz], b0.ext hx2, b1.ext hx2, b2.ext hx2, b3.ext hx2, h4⟩
def ChgOf (a b : List Ent) (c : Chg) : Prop := c.had = (getE a c.k).isSome ∧ c.was = (getE a c.k).getD zeroV ∧ c.has = (getE b c.k).isSome ∧ c.is_ = (getE b c.k).getD zeroV
theorem chgOf_mem {a b : List Ent} (ha : Sorted a) (hb : Sorted b) {c : Chg} (hc : c ∈ chg a b) : ChgOf a b c := by
  rw [chg_keysE ha hb] at hc
  obtain ⟨k, -, hk⟩ := List.mem_filterMap.1 hc
  unfold chgK at hk
  split at hk
  · injection hk with hk
    subst hk
    exact ⟨rfl, rfl, rfl, rfl⟩
  · cases hk
theorem st15 {H : Nat → Prop} {a W : World} {b : Nat} {c0 c1 c2 c3 c4 c5 c6 c7 c8 c9 c10 c11 c12 c13 c14 : Value} (h : St H a W) (hb : H b) : St H a (((((((((((((((W.setCell ⟨b, 0, none⟩ (c0)).setCell ⟨b, 1, none⟩ (c1)).setCell ⟨b, 2, none⟩ (c2)).setCell ⟨b, 3, none⟩ (c3)).setCell ⟨b, 4, none⟩ (c4)).setCell ⟨b, 5, none⟩ (c5)).setCell ⟨b, 6, none⟩ (c6)).setCell ⟨b, 7, none⟩ (c7)).setCell ⟨b, 8, none⟩ (c8)).setCell ⟨b, 9, none⟩ (c9)).setCell ⟨b, 10, none⟩ (c10)).setCell ⟨b, 11, none⟩ (c11)).setCell ⟨b, 12, none⟩ (c12)).setCell ⟨b, 13, none⟩ (c13)).setCell ⟨b, 14, none⟩ (c14)) := by
  have s : ∀ {X : World} (i : Nat) (v : Value), St H a X → St H a (X.setCell ⟨b, i, none⟩ v) := fun i v hx => hx.set (p := ⟨b, i, none⟩) (.inr hb) v
  exact s 14 _ (s 13 _ (s 12 _ (s 11 _ (s 10 _ (s 9 _ (s 8 _ (s 7 _ (s 6 _ (s 5 _ (s 4 _ (s 3 _ (s 2 _ (s 1 _ (s 0 _ (h)))))))))))))))
set_option maxRecDepth 100000 in
set_option maxHeartbeats 1000000 in
theorem res_again {tm : Array Value} {W : World} {b : Nat} {c0 c1 c2 c3 c4 c5 c6 c7 c8 c9 c10 c11 c12 c13 c14 : Value} (h4 : tm.getD 6 undef = .pointer (some ⟨b, 0, none⟩)) (hb : Blk W b 54 #[c0, c1, c2, c3, c4, c5, c6, c7, c8, c9, c10, c11, c12, c13, c14]) :
    (results Tryz.f49 tm).run Tryz.prog W = .ok (.agg #[c0, c1, c2, c3, c4, c5, c6, c7, c8, c9, c10, c11, c12, c13, c14]) W := by
  obtain ⟨r0, r1, r2, r3, r4, r5, r6, r7, r8, r9, r10, r11, r12, r13, r14⟩ := hb.c15
  simp only [Array.getD_eq_getD_getElem?] at h4
  simp [results, Tryz.results49, go_sem, h4, r0, r1, r2, r3, r4, r5, r6, r7, r8, r9, r10, r11, r12, r13, r14]
set_option maxRecDepth 100000 in
set_option maxHeartbeats 4000000 in
theorem again_any {w : World} {F F' : Nat → Prop} {T U : RT} (hT : IsT w F T) (hU : IsT w F' U) (hF : ∀ b, F b → b < w.heap.size) (hF' : ∀ b, F' b → b < w.heap.size) (ok : OkR T) (ok' : OkR U) (hl : (entsT T).length ≤ 1000000) (hl' : (entsT U).length ≤ 1000000)
    {x : CE} (hx : ChgOf (entsT T) (entsT U) x.c) (hor : x.c.had = true ∨ x.c.has = true) (hk : x.c.k.size ≤ maxLen) :
    Calls Tryz.prog 49 #[x.agg, treeV T, treeV U] w fun e w' => ∃ y : CE, e = .returned y.agg ∧ y.c = x.c ∧ Ext w w' ∧ CR w' (In w.heap.size w'.heap.size) y := by
  obtain ⟨p, hp⟩ := rootV_ptr T
  obtain ⟨q, hq⟩ := rootV_ptr U
  have hg := fun (W : World) (hW : Ext w W) => treeGet_any (fun b hb => Nat.lt_of_lt_of_le (hF b hb) hW.size) (hT.agree (hW.agree hF)) ok hl x.c.k
  have hg' := fun (W : World) (hW : Ext w W) => treeGet_any (fun b hb => Nat.lt_of_lt_of_le (hF' b hb) hW.size) (hU.agree (hW.agree hF')) ok' hl' x.c.k
  unfold GetPost at hg hg'
  obtain ⟨⟨k, had, was, has, is_⟩, a1, a2, a3, a4⟩ := x
  obtain ⟨h1, h2, h3, h4⟩ := hx
  dsimp only at hg hg' h1 h2 h3 h4 hor hk ⊢
  rw [← h1, ← h2] at hg
  rw [← h3, ← h4] at hg'
  simp only [treeV, hp] at hg
  simp only [treeV, hq] at hg'
  simp only [treeV, hp, hq]
  have hz1 : had = false → was = zeroV := fun h => by rw [h2]; rw [h1] at h; cases hh : getE (entsT T) k with | none => rfl | some v => rw [hh] at h; cases h
  have hz2 : has = false → is_ = zeroV := fun h => by rw [h4]; rw [h3] at h; cases hh : getE (entsT U) k with | none => rfl | some v => rw [hh] at h; cases h
  have HG := Lib.hid hg
  have HG' := Lib.hid hg'
  have HZ1 := Lib.hid hz1
  have HZ2 := Lib.hid hz2
  clear hT hU hF hF' ok ok' hl hl' hg hg' h1 h2 h3 h4 hz1 hz2 hp hq
  cases had
  · cases has
    · rcases hor with h | h <;> cases h
    · obtain rfl := HZ1.out rfl
      go_enter Tryz.func49, Tryz.ntmps49
      go_wp2_with fail
      generalize hW0 : World.alloc (World.alloc (World.alloc (World.alloc (World.alloc _ _) _) _) _) _ = W0
      obtain ⟨hx0, hz0, -, -, hb2, hb3, hb4⟩ := five_blocks w _ _ _ _ _ _ _ _ _ _ W0 hW0
      clear hW0
      have hzl : w.heap.size + 5 ≤ W0.heap.size := by omega
      clear hz0
      have HB4 := Lib.hid (show Blk W0 (w.heap.size + 1 + 1 + 1 + 1) 54 #[.string k, .bool false, .int .i64 0, .bool false, .int .i64 0, .string ⟨#[]⟩, .slice none 0 0, .slice none 0 0, .bool true, .int .i64 0, .bool false, .int .i64 0, .string ⟨#[]⟩, .slice none 0 0, .slice none 0 0] from hb4)
      have HB3 := Lib.hid (show Blk W0 (w.heap.size + 1 + 1 + 1) 54 _ from hb3)
      have HB2 := Lib.hid hb2
      have HX := Lib.hid hx0
      clear hx0 hb2 hb3 hb4
      refine (HG'.out W0 HX.out).mono ?_
      rintro e w3 ⟨sl', so', rfl, hx3, hrv3⟩
      have hz3 := hx3.size
      have hb43 : Blk w3 (w.heap.size + 1 + 1 + 1 + 1) 54 #[.string k, .bool false, .int .i64 0, .bool false, .int .i64 0, .string ⟨#[]⟩, .slice none 0 0, .slice none 0 0, .bool true, .int .i64 0, .bool false, .int .i64 0, .string ⟨#[]⟩, .slice none 0 0, .slice none 0 0] := HB4.out.ext hx3
      have hb33 := HB3.out.ext hx3
      have q0 : w3.cell? ⟨w.heap.size + 1 + 1 + 1 + 1, 0, none⟩ = some (.string k) := hb43.cell 0
      have q1 : w3.cell? ⟨w.heap.size + 1 + 1 + 1 + 1, 1, none⟩ = some (.bool false) := hb43.cell 1
      have q2 : w3.cell? ⟨w.heap.size + 1 + 1 + 1 + 1, 2, none⟩ = some (.int .i64 0) := hb43.cell 2
      have q3 : w3.cell? ⟨w.heap.size + 1 + 1 + 1 + 1, 3, none⟩ = some (.bool false) := hb43.cell 3
      have q4 : w3.cell? ⟨w.heap.size + 1 + 1 + 1 + 1, 4, none⟩ = some (.int .i64 0) := hb43.cell 4
      have q5 : w3.cell? ⟨w.heap.size + 1 + 1 + 1 + 1, 5, none⟩ = some (.string ⟨#[]⟩) := hb43.cell 5
      have q6 : w3.cell? ⟨w.heap.size + 1 + 1 + 1 + 1, 6, none⟩ = some (.slice none 0 0) := hb43.cell 6
      have q7 : w3.cell? ⟨w.heap.size + 1 + 1 + 1 + 1, 7, none⟩ = some (.slice none 0 0) := hb43.cell 7
      have q8 : w3.cell? ⟨w.heap.size + 1 + 1 + 1 + 1, 8, none⟩ = some (.bool true) := hb43.cell 8
      have q9 : w3.cell? ⟨w.heap.size + 1 + 1 + 1 + 1, 9, none⟩ = some (.int .i64 0) := hb43.cell 9
      have q10 : w3.cell? ⟨w.heap.size + 1 + 1 + 1 + 1, 10, none⟩ = some (.bool false) := hb43.cell 10
      have q11 : w3.cell? ⟨w.heap.size + 1 + 1 + 1 + 1, 11, none⟩ = some (.int .i64 0) := hb43.cell 11
      have q12 : w3.cell? ⟨w.heap.size + 1 + 1 + 1 + 1, 12, none⟩ = some (.string ⟨#[]⟩) := hb43.cell 12
      have q13 : w3.cell? ⟨w.heap.size + 1 + 1 + 1 + 1, 13, none⟩ = some (.slice none 0 0) := hb43.cell 13
      have q14 : w3.cell? ⟨w.heap.size + 1 + 1 + 1 + 1, 14, none⟩ = some (.slice none 0 0) := hb43.cell 14
      have f4 := fun i => hb43.frozen i
      have l4 := hb43.lt
      have f3 : ∀ i, w3.frozen? ⟨w.heap.size + 1 + 1 + 1, i, none⟩ = false := fun i => hb33.frozen i
      have l3 : w.heap.size + 1 + 1 + 1 < w3.heap.size := hb33.lt
      have HX3 := Lib.hid (HX.out.trans hx3)
      have HRV3 := Lib.hid (hrv3.mono (G := In (w.heap.size + 5) w3.heap.size) fun b hb => ⟨by have := hb.1; omega, hb.2⟩)
      have HB43 := Lib.hid hb43
      have HB33 := Lib.hid hb33
      clear hx3 hrv3 hb43 hb33
      go_upto_region 6 with (fail)
      clear q0 q1 q2 q3 q4 q5 q6 q7 q8 q9 q10 q11 q12 q13 q14 f4 f3 l3 l4
      generalize hW4 : ((((((w3.setCell ⟨w.heap.size + 1 + 1 + 1 + 1, 9, none⟩ (.int .i64 is_.kind)).setCell ⟨w.heap.size + 1 + 1 + 1 + 1, 10, none⟩ (.bool is_.b)).setCell ⟨w.heap.size + 1 + 1 + 1 + 1, 11, none⟩ (.int .i64 is_.i)).setCell ⟨w.heap.size + 1 + 1 + 1 + 1, 12, none⟩ (.string is_.t)).setCell ⟨w.heap.size + 1 + 1 + 1 + 1, 13, none⟩ (.slice sl'.a is_.l.length sl'.c)).setCell ⟨w.heap.size + 1 + 1 + 1 + 1, 14, none⟩ (.slice so'.a is_.ok.length so'.c)) = W4
      have hst4 : St (fun b => b = w.heap.size + 1 + 1 + 1 + 1) w3 W4 := by rw [← hW4]; exact (((((((St.refl (fun b => b = w.heap.size + 1 + 1 + 1 + 1) w3).set (p := ⟨w.heap.size + 1 + 1 + 1 + 1, 9, none⟩) (.inr rfl) _).set (p := ⟨w.heap.size + 1 + 1 + 1 + 1, 10, none⟩) (.inr rfl) _).set (p := ⟨w.heap.size + 1 + 1 + 1 + 1, 11, none⟩) (.inr rfl) _).set (p := ⟨w.heap.size + 1 + 1 + 1 + 1, 12, none⟩) (.inr rfl) _).set (p := ⟨w.heap.size + 1 + 1 + 1 + 1, 13, none⟩) (.inr rfl) _).set (p := ⟨w.heap.size + 1 + 1 + 1 + 1, 14, none⟩) (.inr rfl) _)
      have hz4 := hst4.size
      have HB44 := Lib.hid (show Blk W4 (w.heap.size + 1 + 1 + 1 + 1) 54 #[.string k, .bool false, .int .i64 0, .bool false, .int .i64 0, .string ⟨#[]⟩, .slice none 0 0, .slice none 0 0, .bool true, .int .i64 is_.kind, .bool is_.b, .int .i64 is_.i, .string is_.t, .slice sl'.a is_.l.length sl'.c, .slice so'.a is_.ok.length so'.c] by rw [← hW4]; exact ((((((HB43.out.set_ 9 (.int .i64 is_.kind)).set_ 10 (.bool is_.b)).set_ 11 (.int .i64 is_.i)).set_ 12 (.string is_.t)).set_ 13 (.slice sl'.a is_.l.length sl'.c)).set_ 14 (.slice so'.a is_.ok.length so'.c)))
      have HB34 := Lib.hid (hst4.blk HB33.out (show ¬ w.heap.size + 1 + 1 + 1 = w.heap.size + 1 + 1 + 1 + 1 by omega))
      have HX4 := Lib.hid (HX3.out.step hst4 fun b e => by omega)
      have HRV34 := Lib.hid ((HRV3.out.agree (hst4.agree.mono fun b hb => ⟨hb.2, fun e => by have := hb.1; omega⟩)).mono (G := In (w.heap.size + 5) W4.heap.size) fun b hb => ⟨hb.1, Nat.lt_of_lt_of_le hb.2 hz4⟩)
      have q0 : W4.cell? ⟨w.heap.size + 1 + 1 + 1 + 1, 0, none⟩ = some (.string k) := HB44.out.cell 0
      have q1 : W4.cell? ⟨w.heap.size + 1 + 1 + 1 + 1, 1, none⟩ = some (.bool false) := HB44.out.cell 1
      have q2 : W4.cell? ⟨w.heap.size + 1 + 1 + 1 + 1, 2, none⟩ = some (.int .i64 0) := HB44.out.cell 2
      have q3 : W4.cell? ⟨w.heap.size + 1 + 1 + 1 + 1, 3, none⟩ = some (.bool false) := HB44.out.cell 3
      have q4 : W4.cell? ⟨w.heap.size + 1 + 1 + 1 + 1, 4, none⟩ = some (.int .i64 0) := HB44.out.cell 4
      have q5 : W4.cell? ⟨w.heap.size + 1 + 1 + 1 + 1, 5, none⟩ = some (.string ⟨#[]⟩) := HB44.out.cell 5
      have q6 : W4.cell? ⟨w.heap.size + 1 + 1 + 1 + 1, 6, none⟩ = some (.slice none 0 0) := HB44.out.cell 6
      have q7 : W4.cell? ⟨w.heap.size + 1 + 1 + 1 + 1, 7, none⟩ = some (.slice none 0 0) := HB44.out.cell 7
      have q8 : W4.cell? ⟨w.heap.size + 1 + 1 + 1 + 1, 8, none⟩ = some (.bool true) := HB44.out.cell 8
      have q9 : W4.cell? ⟨w.heap.size + 1 + 1 + 1 + 1, 9, none⟩ = some (.int .i64 is_.kind) := HB44.out.cell 9
      have q10 : W4.cell? ⟨w.heap.size + 1 + 1 + 1 + 1, 10, none⟩ = some (.bool is_.b) := HB44.out.cell 10
      have q11 : W4.cell? ⟨w.heap.size + 1 + 1 + 1 + 1, 11, none⟩ = some (.int .i64 is_.i) := HB44.out.cell 11
      have q12 : W4.cell? ⟨w.heap.size + 1 + 1 + 1 + 1, 12, none⟩ = some (.string is_.t) := HB44.out.cell 12
      have q13 : W4.cell? ⟨w.heap.size + 1 + 1 + 1 + 1, 13, none⟩ = some (.slice sl'.a is_.l.length sl'.c) := HB44.out.cell 13
      have q14 : W4.cell? ⟨w.heap.size + 1 + 1 + 1 + 1, 14, none⟩ = some (.slice so'.a is_.ok.length so'.c) := HB44.out.cell 14
      have f4 := fun i => HB44.out.frozen i
      have l4 := HB44.out.lt
      have f3 : ∀ i, W4.frozen? ⟨w.heap.size + 1 + 1 + 1, i, none⟩ = false := fun i => HB34.out.frozen i
      have l3 : w.heap.size + 1 + 1 + 1 < W4.heap.size := HB34.out.lt
      have p0 : W4.cell? ⟨w.heap.size + 1 + 1 + 1, 0, none⟩ = some (.string ⟨#[]⟩) := HB34.out.cell 0
      have p1 : W4.cell? ⟨w.heap.size + 1 + 1 + 1, 1, none⟩ = some (.bool false) := HB34.out.cell 1
      have p2 : W4.cell? ⟨w.heap.size + 1 + 1 + 1, 2, none⟩ = some (.int .i64 0) := HB34.out.cell 2
      have p3 : W4.cell? ⟨w.heap.size + 1 + 1 + 1, 3, none⟩ = some (.bool false) := HB34.out.cell 3
      have p4 : W4.cell? ⟨w.heap.size + 1 + 1 + 1, 4, none⟩ = some (.int .i64 0) := HB34.out.cell 4
      have p5 : W4.cell? ⟨w.heap.size + 1 + 1 + 1, 5, none⟩ = some (.string ⟨#[]⟩) := HB34.out.cell 5
      have p6 : W4.cell? ⟨w.heap.size + 1 + 1 + 1, 6, none⟩ = some (.slice none 0 0) := HB34.out.cell 6
      have p7 : W4.cell? ⟨w.heap.size + 1 + 1 + 1, 7, none⟩ = some (.slice none 0 0) := HB34.out.cell 7
      have p8 : W4.cell? ⟨w.heap.size + 1 + 1 + 1, 8, none⟩ = some (.bool false) := HB34.out.cell 8
      have p9 : W4.cell? ⟨w.heap.size + 1 + 1 + 1, 9, none⟩ = some (.int .i64 0) := HB34.out.cell 9
      have p10 : W4.cell? ⟨w.heap.size + 1 + 1 + 1, 10, none⟩ = some (.bool false) := HB34.out.cell 10
      have p11 : W4.cell? ⟨w.heap.size + 1 + 1 + 1, 11, none⟩ = some (.int .i64 0) := HB34.out.cell 11
      have p12 : W4.cell? ⟨w.heap.size + 1 + 1 + 1, 12, none⟩ = some (.string ⟨#[]⟩) := HB34.out.cell 12
      have p13 : W4.cell? ⟨w.heap.size + 1 + 1 + 1, 13, none⟩ = some (.slice none 0 0) := HB34.out.cell 13
      have p14 : W4.cell? ⟨w.heap.size + 1 + 1 + 1, 14, none⟩ = some (.slice none 0 0) := HB34.out.cell 14
      clear hW4 hst4
      go_wp2_with fail
      clear q0 q1 q2 q3 q4 q5 q6 q7 q8 q9 q10 q11 q12 q13 q14 p0 p1 p2 p3 p4 p5 p6 p7 p8 p9 p10 p11 p12 p13 p14 f4 f3 l3 l4
      generalize hW5 : (((((((((((((((W4.setCell ⟨w.heap.size + 1 + 1 + 1, 0, none⟩ (.string k)).setCell ⟨w.heap.size + 1 + 1 + 1, 1, none⟩ (.bool false)).setCell ⟨w.heap.size + 1 + 1 + 1, 2, none⟩ (.int .i64 0)).setCell ⟨w.heap.size + 1 + 1 + 1, 3, none⟩ (.bool false)).setCell ⟨w.heap.size + 1 + 1 + 1, 4, none⟩ (.int .i64 0)).setCell ⟨w.heap.size + 1 + 1 + 1, 5, none⟩ (.string ⟨#[]⟩)).setCell ⟨w.heap.size + 1 + 1 + 1, 6, none⟩ (.slice none 0 0)).setCell ⟨w.heap.size + 1 + 1 + 1, 7, none⟩ (.slice none 0 0)).setCell ⟨w.heap.size + 1 + 1 + 1, 8, none⟩ (.bool true)).setCell ⟨w.heap.size + 1 + 1 + 1, 9, none⟩ (.int .i64 is_.kind)).setCell ⟨w.heap.size + 1 + 1 + 1, 10, none⟩ (.bool is_.b)).setCell ⟨w.heap.size + 1 + 1 + 1, 11, none⟩ (.int .i64 is_.i)).setCell ⟨w.heap.size + 1 + 1 + 1, 12, none⟩ (.string is_.t)).setCell ⟨w.heap.size + 1 + 1 + 1, 13, none⟩ (.slice sl'.a is_.l.length sl'.c)).setCell ⟨w.heap.size + 1 + 1 + 1, 14, none⟩ (.slice so'.a is_.ok.length so'.c)) = W5
      have hb5 : Blk W5 (w.heap.size + 1 + 1 + 1) 54 #[.string k, .bool false, .int .i64 0, .bool false, .int .i64 0, .string ⟨#[]⟩, .slice none 0 0, .slice none 0 0, .bool true, .int .i64 is_.kind, .bool is_.b, .int .i64 is_.i, .string is_.t, .slice sl'.a is_.l.length sl'.c, .slice so'.a is_.ok.length so'.c] := by rw [← hW5]; exact blk15 HB34.out
      have hst5 : St (fun b => b = w.heap.size + 1 + 1 + 1) W4 W5 := by rw [← hW5]; exact st15 (St.refl _ _) rfl
      have hx5 : Ext w W5 := HX4.out.step hst5 fun b e => by omega
      have hz5 := hst5.size
      clear hW5
      refine bodyPost_ret (res_again rfl hb5) rfl ?_
      exact ⟨⟨⟨k, false, zeroV, true, is_⟩, Sl.none, Sl.none, sl', so'⟩, rfl, rfl, hx5, rv_zero _ _, (HRV34.out.agree (hst5.agree.mono fun b hb => ⟨hb.2, fun e => by have := hb.1; omega⟩)).mono (G := In w.heap.size W5.heap.size) fun b hb => ⟨by have := hb.1; omega, Nat.lt_of_lt_of_le hb.2 hz5⟩, hk⟩
  · cases has
    · obtain rfl := HZ2.out rfl
      go_enter Tryz.func49, Tryz.ntmps49
      go_wp2_with fail
      generalize hW0 : World.alloc (World.alloc (World.alloc (World.alloc (World.alloc _ _) _) _) _) _ = W0
      obtain ⟨hx0, hz0, -, -, hb2, hb3, hb4⟩ := five_blocks w _ _ _ _ _ _ _ _ _ _ W0 hW0
      clear hW0
      have hzl : w.heap.size + 5 ≤ W0.heap.size := by omega
      clear hz0
      have HB4 := Lib.hid (show Blk W0 (w.heap.size + 1 + 1 + 1 + 1) 54 #[.string k, .bool true, .int .i64 0, .bool false, .int .i64 0, .string ⟨#[]⟩, .slice none 0 0, .slice none 0 0, .bool false, .int .i64 0, .bool false, .int .i64 0, .string ⟨#[]⟩, .slice none 0 0, .slice none 0 0] from hb4)
      have HB3 := Lib.hid (show Blk W0 (w.heap.size + 1 + 1 + 1) 54 _ from hb3)
      have HB2 := Lib.hid hb2
      have HX := Lib.hid hx0
      clear hx0 hb2 hb3 hb4
      refine (HG.out W0 HX.out).mono ?_
      rintro e w1 ⟨sl, so, rfl, hx1, hrv1⟩
      have hz1 := hx1.size
      have hb41 : Blk w1 (w.heap.size + 1 + 1 + 1 + 1) 54 #[.string k, .bool true, .int .i64 0, .bool false, .int .i64 0, .string ⟨#[]⟩, .slice none 0 0, .slice none 0 0, .bool false, .int .i64 0, .bool false, .int .i64 0, .string ⟨#[]⟩, .slice none 0 0, .slice none 0 0] := HB4.out.ext hx1
      have hb31 := HB3.out.ext hx1
      have q0 : w1.cell? ⟨w.heap.size + 1 + 1 + 1 + 1, 0, none⟩ = some (.string k) := hb41.cell 0
      have q1 : w1.cell? ⟨w.heap.size + 1 + 1 + 1 + 1, 1, none⟩ = some (.bool true) := hb41.cell 1
      have q2 : w1.cell? ⟨w.heap.size + 1 + 1 + 1 + 1, 2, none⟩ = some (.int .i64 0) := hb41.cell 2
      have q3 : w1.cell? ⟨w.heap.size + 1 + 1 + 1 + 1, 3, none⟩ = some (.bool false) := hb41.cell 3
      have q4 : w1.cell? ⟨w.heap.size + 1 + 1 + 1 + 1, 4, none⟩ = some (.int .i64 0) := hb41.cell 4
      have q5 : w1.cell? ⟨w.heap.size + 1 + 1 + 1 + 1, 5, none⟩ = some (.string ⟨#[]⟩) := hb41.cell 5
      have q6 : w1.cell? ⟨w.heap.size + 1 + 1 + 1 + 1, 6, none⟩ = some (.slice none 0 0) := hb41.cell 6
      have q7 : w1.cell? ⟨w.heap.size + 1 + 1 + 1 + 1, 7, none⟩ = some (.slice none 0 0) := hb41.cell 7
      have q8 : w1.cell? ⟨w.heap.size + 1 + 1 + 1 + 1, 8, none⟩ = some (.bool false) := hb41.cell 8
      have q9 : w1.cell? ⟨w.heap.size + 1 + 1 + 1 + 1, 9, none⟩ = some (.int .i64 0) := hb41.cell 9
      have q10 : w1.cell? ⟨w.heap.size + 1 + 1 + 1 + 1, 10, none⟩ = some (.bool false) := hb41.cell 10
      have q11 : w1.cell? ⟨w.heap.size + 1 + 1 + 1 + 1, 11, none⟩ = some (.int .i64 0) := hb41.cell 11
      have q12 : w1.cell? ⟨w.heap.size + 1 + 1 + 1 + 1, 12, none⟩ = some (.string ⟨#[]⟩) := hb41.cell 12
      have q13 : w1.cell? ⟨w.heap.size + 1 + 1 + 1 + 1, 13, none⟩ = some (.slice none 0 0) := hb41.cell 13
      have q14 : w1.cell? ⟨w.heap.size + 1 + 1 + 1 + 1, 14, none⟩ = some (.slice none 0 0) := hb41.cell 14
      have HB2b := Lib.hid (HB2.out.ext hx1)
      have hd1 : w1.cell? ⟨w.heap.size + 1 + 1, 0, none⟩ = some (.pointer q) := (HB2.out.ext hx1).cell 0
      have l2 : w.heap.size + 1 + 1 < w1.heap.size := (HB2.out.ext hx1).lt
      have f4 := fun i => hb41.frozen i
      have l4 := hb41.lt
      have f3 : ∀ i, w1.frozen? ⟨w.heap.size + 1 + 1 + 1, i, none⟩ = false := fun i => hb31.frozen i
      have l3 : w.heap.size + 1 + 1 + 1 < w1.heap.size := hb31.lt
      have HX1 := Lib.hid (HX.out.trans hx1)
      have HRV1 := Lib.hid (hrv1.mono (G := In (w.heap.size + 5) w1.heap.size) fun b hb => ⟨by have := hb.1; omega, hb.2⟩)
      have HB41 := Lib.hid hb41
      have HB31 := Lib.hid hb31
      clear hx1 hrv1 hb41 hb31
      go_upto_region 4 with (fail)
      clear q0 q1 q2 q3 q4 q5 q6 q7 q8 q9 q10 q11 q12 q13 q14 hd1 l2 f4 f3 l3 l4
      generalize hW2 : ((((((w1.setCell ⟨w.heap.size + 1 + 1 + 1 + 1, 2, none⟩ (.int .i64 was.kind)).setCell ⟨w.heap.size + 1 + 1 + 1 + 1, 3, none⟩ (.bool was.b)).setCell ⟨w.heap.size + 1 + 1 + 1 + 1, 4, none⟩ (.int .i64 was.i)).setCell ⟨w.heap.size + 1 + 1 + 1 + 1, 5, none⟩ (.string was.t)).setCell ⟨w.heap.size + 1 + 1 + 1 + 1, 6, none⟩ (.slice sl.a was.l.length sl.c)).setCell ⟨w.heap.size + 1 + 1 + 1 + 1, 7, none⟩ (.slice so.a was.ok.length so.c)) = W2
      have hst2 : St (fun b => b = w.heap.size + 1 + 1 + 1 + 1) w1 W2 := by rw [← hW2]; exact (((((((St.refl (fun b => b = w.heap.size + 1 + 1 + 1 + 1) w1).set (p := ⟨w.heap.size + 1 + 1 + 1 + 1, 2, none⟩) (.inr rfl) _).set (p := ⟨w.heap.size + 1 + 1 + 1 + 1, 3, none⟩) (.inr rfl) _).set (p := ⟨w.heap.size + 1 + 1 + 1 + 1, 4, none⟩) (.inr rfl) _).set (p := ⟨w.heap.size + 1 + 1 + 1 + 1, 5, none⟩) (.inr rfl) _).set (p := ⟨w.heap.size + 1 + 1 + 1 + 1, 6, none⟩) (.inr rfl) _).set (p := ⟨w.heap.size + 1 + 1 + 1 + 1, 7, none⟩) (.inr rfl) _)
      have hz2 := hst2.size
      have HB42 := Lib.hid (show Blk W2 (w.heap.size + 1 + 1 + 1 + 1) 54 #[.string k, .bool true, .int .i64 was.kind, .bool was.b, .int .i64 was.i, .string was.t, .slice sl.a was.l.length sl.c, .slice so.a was.ok.length so.c, .bool false, .int .i64 0, .bool false, .int .i64 0, .string ⟨#[]⟩, .slice none 0 0, .slice none 0 0] by rw [← hW2]; exact ((((((HB41.out.set_ 2 (.int .i64 was.kind)).set_ 3 (.bool was.b)).set_ 4 (.int .i64 was.i)).set_ 5 (.string was.t)).set_ 6 (.slice sl.a was.l.length sl.c)).set_ 7 (.slice so.a was.ok.length so.c)))
      have HB32 := Lib.hid (hst2.blk HB31.out (show ¬ w.heap.size + 1 + 1 + 1 = w.heap.size + 1 + 1 + 1 + 1 by omega))
      have HX2 := Lib.hid (HX1.out.step hst2 fun b e => by omega)
      have HRV12 := Lib.hid ((HRV1.out.agree (hst2.agree.mono fun b hb => ⟨hb.2, fun e => by have := hb.1; omega⟩)).mono (G := In (w.heap.size + 5) W2.heap.size) fun b hb => ⟨hb.1, Nat.lt_of_lt_of_le hb.2 hz2⟩)
      have hd1 : W2.cell? ⟨w.heap.size + 1 + 1, 0, none⟩ = some (.pointer q) := (hst2.blk HB2b.out (show ¬ w.heap.size + 1 + 1 = w.heap.size + 1 + 1 + 1 + 1 by omega)).cell 0
      have l2 : w.heap.size + 1 + 1 < W2.heap.size := (hst2.blk HB2b.out (show ¬ w.heap.size + 1 + 1 = w.heap.size + 1 + 1 + 1 + 1 by omega)).lt
      have q0 : W2.cell? ⟨w.heap.size + 1 + 1 + 1 + 1, 0, none⟩ = some (.string k) := HB42.out.cell 0
      have q1 : W2.cell? ⟨w.heap.size + 1 + 1 + 1 + 1, 1, none⟩ = some (.bool true) := HB42.out.cell 1
      have q2 : W2.cell? ⟨w.heap.size + 1 + 1 + 1 + 1, 2, none⟩ = some (.int .i64 was.kind) := HB42.out.cell 2
      have q3 : W2.cell? ⟨w.heap.size + 1 + 1 + 1 + 1, 3, none⟩ = some (.bool was.b) := HB42.out.cell 3
      have q4 : W2.cell? ⟨w.heap.size + 1 + 1 + 1 + 1, 4, none⟩ = some (.int .i64 was.i) := HB42.out.cell 4
      have q5 : W2.cell? ⟨w.heap.size + 1 + 1 + 1 + 1, 5, none⟩ = some (.string was.t) := HB42.out.cell 5
      have q6 : W2.cell? ⟨w.heap.size + 1 + 1 + 1 + 1, 6, none⟩ = some (.slice sl.a was.l.length sl.c) := HB42.out.cell 6
      have q7 : W2.cell? ⟨w.heap.size + 1 + 1 + 1 + 1, 7, none⟩ = some (.slice so.a was.ok.length so.c) := HB42.out.cell 7
      have q8 : W2.cell? ⟨w.heap.size + 1 + 1 + 1 + 1, 8, none⟩ = some (.bool false) := HB42.out.cell 8
      have q9 : W2.cell? ⟨w.heap.size + 1 + 1 + 1 + 1, 9, none⟩ = some (.int .i64 0) := HB42.out.cell 9
      have q10 : W2.cell? ⟨w.heap.size + 1 + 1 + 1 + 1, 10, none⟩ = some (.bool false) := HB42.out.cell 10
      have q11 : W2.cell? ⟨w.heap.size + 1 + 1 + 1 + 1, 11, none⟩ = some (.int .i64 0) := HB42.out.cell 11
      have q12 : W2.cell? ⟨w.heap.size + 1 + 1 + 1 + 1, 12, none⟩ = some (.string ⟨#[]⟩) := HB42.out.cell 12
      have q13 : W2.cell? ⟨w.heap.size + 1 + 1 + 1 + 1, 13, none⟩ = some (.slice none 0 0) := HB42.out.cell 13
      have q14 : W2.cell? ⟨w.heap.size + 1 + 1 + 1 + 1, 14, none⟩ = some (.slice none 0 0) := HB42.out.cell 14
      have f4 := fun i => HB42.out.frozen i
      have l4 := HB42.out.lt
      have f3 : ∀ i, W2.frozen? ⟨w.heap.size + 1 + 1 + 1, i, none⟩ = false := fun i => HB32.out.frozen i
      have l3 : w.heap.size + 1 + 1 + 1 < W2.heap.size := HB32.out.lt
      have p0 : W2.cell? ⟨w.heap.size + 1 + 1 + 1, 0, none⟩ = some (.string ⟨#[]⟩) := HB32.out.cell 0
      have p1 : W2.cell? ⟨w.heap.size + 1 + 1 + 1, 1, none⟩ = some (.bool false) := HB32.out.cell 1
      have p2 : W2.cell? ⟨w.heap.size + 1 + 1 + 1, 2, none⟩ = some (.int .i64 0) := HB32.out.cell 2
      have p3 : W2.cell? ⟨w.heap.size + 1 + 1 + 1, 3, none⟩ = some (.bool false) := HB32.out.cell 3
      have p4 : W2.cell? ⟨w.heap.size + 1 + 1 + 1, 4, none⟩ = some (.int .i64 0) := HB32.out.cell 4
      have p5 : W2.cell? ⟨w.heap.size + 1 + 1 + 1, 5, none⟩ = some (.string ⟨#[]⟩) := HB32.out.cell 5
      have p6 : W2.cell? ⟨w.heap.size + 1 + 1 + 1, 6, none⟩ = some (.slice none 0 0) := HB32.out.cell 6
      have p7 : W2.cell? ⟨w.heap.size + 1 + 1 + 1, 7, none⟩ = some (.slice none 0 0) := HB32.out.cell 7
      have p8 : W2.cell? ⟨w.heap.size + 1 + 1 + 1, 8, none⟩ = some (.bool false) := HB32.out.cell 8
      have p9 : W2.cell? ⟨w.heap.size + 1 + 1 + 1, 9, none⟩ = some (.int .i64 0) := HB32.out.cell 9
      have p10 : W2.cell? ⟨w.heap.size + 1 + 1 + 1, 10, none⟩ = some (.bool false) := HB32.out.cell 10
      have p11 : W2.cell? ⟨w.heap.size + 1 + 1 + 1, 11, none⟩ = some (.int .i64 0) := HB32.out.cell 11
      have p12 : W2.cell? ⟨w.heap.size + 1 + 1 + 1, 12, none⟩ = some (.string ⟨#[]⟩) := HB32.out.cell 12
      have p13 : W2.cell? ⟨w.heap.size + 1 + 1 + 1, 13, none⟩ = some (.slice none 0 0) := HB32.out.cell 13
      have p14 : W2.cell? ⟨w.heap.size + 1 + 1 + 1, 14, none⟩ = some (.slice none 0 0) := HB32.out.cell 14
      clear hW2 hst2
      go_wp2_with fail
      clear q0 q1 q2 q3 q4 q5 q6 q7 q8 q9 q10 q11 q12 q13 q14 p0 p1 p2 p3 p4 p5 p6 p7 p8 p9 p10 p11 p12 p13 p14 f4 f3 l3 l4 hd1 l2
      generalize hW5 : (((((((((((((((W2.setCell ⟨w.heap.size + 1 + 1 + 1, 0, none⟩ (.string k)).setCell ⟨w.heap.size + 1 + 1 + 1, 1, none⟩ (.bool true)).setCell ⟨w.heap.size + 1 + 1 + 1, 2, none⟩ (.int .i64 was.kind)).setCell ⟨w.heap.size + 1 + 1 + 1, 3, none⟩ (.bool was.b)).setCell ⟨w.heap.size + 1 + 1 + 1, 4, none⟩ (.int .i64 was.i)).setCell ⟨w.heap.size + 1 + 1 + 1, 5, none⟩ (.string was.t)).setCell ⟨w.heap.size + 1 + 1 + 1, 6, none⟩ (.slice sl.a was.l.length sl.c)).setCell ⟨w.heap.size + 1 + 1 + 1, 7, none⟩ (.slice so.a was.ok.length so.c)).setCell ⟨w.heap.size + 1 + 1 + 1, 8, none⟩ (.bool false)).setCell ⟨w.heap.size + 1 + 1 + 1, 9, none⟩ (.int .i64 0)).setCell ⟨w.heap.size + 1 + 1 + 1, 10, none⟩ (.bool false)).setCell ⟨w.heap.size + 1 + 1 + 1, 11, none⟩ (.int .i64 0)).setCell ⟨w.heap.size + 1 + 1 + 1, 12, none⟩ (.string ⟨#[]⟩)).setCell ⟨w.heap.size + 1 + 1 + 1, 13, none⟩ (.slice none 0 0)).setCell ⟨w.heap.size + 1 + 1 + 1, 14, none⟩ (.slice none 0 0)) = W5
      have hb5 : Blk W5 (w.heap.size + 1 + 1 + 1) 54 #[.string k, .bool true, .int .i64 was.kind, .bool was.b, .int .i64 was.i, .string was.t, .slice sl.a was.l.length sl.c, .slice so.a was.ok.length so.c, .bool false, .int .i64 0, .bool false, .int .i64 0, .string ⟨#[]⟩, .slice none 0 0, .slice none 0 0] := by rw [← hW5]; exact blk15 HB32.out
      have hst5 : St (fun b => b = w.heap.size + 1 + 1 + 1) W2 W5 := by rw [← hW5]; exact st15 (St.refl _ _) rfl
      have hx5 : Ext w W5 := HX2.out.step hst5 fun b e => by omega
      have hz5 := hst5.size
      clear hW5
      refine bodyPost_ret (res_again rfl hb5) rfl ?_
      exact ⟨⟨⟨k, true, was, false, zeroV⟩, sl, so, Sl.none, Sl.none⟩, rfl, rfl, hx5, (HRV12.out.agree (hst5.agree.mono fun b hb => ⟨hb.2, fun e => by have := hb.1; omega⟩)).mono (G := In w.heap.size W5.heap.size) fun b hb => ⟨by have := hb.1; omega, Nat.lt_of_lt_of_le hb.2 hz5⟩, rv_zero _ _, hk⟩
    · go_enter Tryz.func49, Tryz.ntmps49
      go_wp2_with fail
      generalize hW0 : World.alloc (World.alloc (World.alloc (World.alloc (World.alloc _ _) _) _) _) _ = W0
      obtain ⟨hx0, hz0, -, -, hb2, hb3, hb4⟩ := five_blocks w _ _ _ _ _ _ _ _ _ _ W0 hW0
      clear hW0
      have hzl : w.heap.size + 5 ≤ W0.heap.size := by omega
      clear hz0
      have HB4 := Lib.hid (show Blk W0 (w.heap.size + 1 + 1 + 1 + 1) 54 #[.string k, .bool true, .int .i64 0, .bool false, .int .i64 0, .string ⟨#[]⟩, .slice none 0 0, .slice none 0 0, .bool true, .int .i64 0, .bool false, .int .i64 0, .string ⟨#[]⟩, .slice none 0 0, .slice none 0 0] from hb4)
      have HB3 := Lib.hid (show Blk W0 (w.heap.size + 1 + 1 + 1) 54 _ from hb3)
      have HB2 := Lib.hid hb2
      have HX := Lib.hid hx0
      clear hx0 hb2 hb3 hb4
      refine (HG.out W0 HX.out).mono ?_
      rintro e w1 ⟨sl, so, rfl, hx1, hrv1⟩
      have hz1 := hx1.size
      have hb41 : Blk w1 (w.heap.size + 1 + 1 + 1 + 1) 54 #[.string k, .bool true, .int .i64 0, .bool false, .int .i64 0, .string ⟨#[]⟩, .slice none 0 0, .slice none 0 0, .bool true, .int .i64 0, .bool false, .int .i64 0, .string ⟨#[]⟩, .slice none 0 0, .slice none 0 0] := HB4.out.ext hx1
      have hb31 := HB3.out.ext hx1
      have q0 : w1.cell? ⟨w.heap.size + 1 + 1 + 1 + 1, 0, none⟩ = some (.string k) := hb41.cell 0
      have q1 : w1.cell? ⟨w.heap.size + 1 + 1 + 1 + 1, 1, none⟩ = some (.bool true) := hb41.cell 1
      have q2 : w1.cell? ⟨w.heap.size + 1 + 1 + 1 + 1, 2, none⟩ = some (.int .i64 0) := hb41.cell 2
      have q3 : w1.cell? ⟨w.heap.size + 1 + 1 + 1 + 1, 3, none⟩ = some (.bool false) := hb41.cell 3
      have q4 : w1.cell? ⟨w.heap.size + 1 + 1 + 1 + 1, 4, none⟩ = some (.int .i64 0) := hb41.cell 4
      have q5 : w1.cell? ⟨w.heap.size + 1 + 1 + 1 + 1, 5, none⟩ = some (.string ⟨#[]⟩) := hb41.cell 5
      have q6 : w1.cell? ⟨w.heap.size + 1 + 1 + 1 + 1, 6, none⟩ = some (.slice none 0 0) := hb41.cell 6
      have q7 : w1.cell? ⟨w.heap.size + 1 + 1 + 1 + 1, 7, none⟩ = some (.slice none 0 0) := hb41.cell 7
      have q8 : w1.cell? ⟨w.heap.size + 1 + 1 + 1 + 1, 8, none⟩ = some (.bool true) := hb41.cell 8
      have q9 : w1.cell? ⟨w.heap.size + 1 + 1 + 1 + 1, 9, none⟩ = some (.int .i64 0) := hb41.cell 9
      have q10 : w1.cell? ⟨w.heap.size + 1 + 1 + 1 + 1, 10, none⟩ = some (.bool false) := hb41.cell 10
      have q11 : w1.cell? ⟨w.heap.size + 1 + 1 + 1 + 1, 11, none⟩ = some (.int .i64 0) := hb41.cell 11
      have q12 : w1.cell? ⟨w.heap.size + 1 + 1 + 1 + 1, 12, none⟩ = some (.string ⟨#[]⟩) := hb41.cell 12
      have q13 : w1.cell? ⟨w.heap.size + 1 + 1 + 1 + 1, 13, none⟩ = some (.slice none 0 0) := hb41.cell 13
      have q14 : w1.cell? ⟨w.heap.size + 1 + 1 + 1 + 1, 14, none⟩ = some (.slice none 0 0) := hb41.cell 14
      have HB2b := Lib.hid (HB2.out.ext hx1)
      have hd1 : w1.cell? ⟨w.heap.size + 1 + 1, 0, none⟩ = some (.pointer q) := (HB2.out.ext hx1).cell 0
      have l2 : w.heap.size + 1 + 1 < w1.heap.size := (HB2.out.ext hx1).lt
      have f4 := fun i => hb41.frozen i
      have l4 := hb41.lt
      have f3 : ∀ i, w1.frozen? ⟨w.heap.size + 1 + 1 + 1, i, none⟩ = false := fun i => hb31.frozen i
      have l3 : w.heap.size + 1 + 1 + 1 < w1.heap.size := hb31.lt
      have HX1 := Lib.hid (HX.out.trans hx1)
      have HRV1 := Lib.hid (hrv1.mono (G := In (w.heap.size + 5) w1.heap.size) fun b hb => ⟨by have := hb.1; omega, hb.2⟩)
      have HB41 := Lib.hid hb41
      have HB31 := Lib.hid hb31
      clear hx1 hrv1 hb41 hb31
      go_upto_region 4 with (fail)
      clear q0 q1 q2 q3 q4 q5 q6 q7 q8 q9 q10 q11 q12 q13 q14 hd1 l2 f4 f3 l3 l4
      generalize hW2 : ((((((w1.setCell ⟨w.heap.size + 1 + 1 + 1 + 1, 2, none⟩ (.int .i64 was.kind)).setCell ⟨w.heap.size + 1 + 1 + 1 + 1, 3, none⟩ (.bool was.b)).setCell ⟨w.heap.size + 1 + 1 + 1 + 1, 4, none⟩ (.int .i64 was.i)).setCell ⟨w.heap.size + 1 + 1 + 1 + 1, 5, none⟩ (.string was.t)).setCell ⟨w.heap.size + 1 + 1 + 1 + 1, 6, none⟩ (.slice sl.a was.l.length sl.c)).setCell ⟨w.heap.size + 1 + 1 + 1 + 1, 7, none⟩ (.slice so.a was.ok.length so.c)) = W2
      have hst2 : St (fun b => b = w.heap.size + 1 + 1 + 1 + 1) w1 W2 := by rw [← hW2]; exact (((((((St.refl (fun b => b = w.heap.size + 1 + 1 + 1 + 1) w1).set (p := ⟨w.heap.size + 1 + 1 + 1 + 1, 2, none⟩) (.inr rfl) _).set (p := ⟨w.heap.size + 1 + 1 + 1 + 1, 3, none⟩) (.inr rfl) _).set (p := ⟨w.heap.size + 1 + 1 + 1 + 1, 4, none⟩) (.inr rfl) _).set (p := ⟨w.heap.size + 1 + 1 + 1 + 1, 5, none⟩) (.inr rfl) _).set (p := ⟨w.heap.size + 1 + 1 + 1 + 1, 6, none⟩) (.inr rfl) _).set (p := ⟨w.heap.size + 1 + 1 + 1 + 1, 7, none⟩) (.inr rfl) _)
      have hz2 := hst2.size
      have HB42 := Lib.hid (show Blk W2 (w.heap.size + 1 + 1 + 1 + 1) 54 #[.string k, .bool true, .int .i64 was.kind, .bool was.b, .int .i64 was.i, .string was.t, .slice sl.a was.l.length sl.c, .slice so.a was.ok.length so.c, .bool true, .int .i64 0, .bool false, .int .i64 0, .string ⟨#[]⟩, .slice none 0 0, .slice none 0 0] by rw [← hW2]; exact ((((((HB41.out.set_ 2 (.int .i64 was.kind)).set_ 3 (.bool was.b)).set_ 4 (.int .i64 was.i)).set_ 5 (.string was.t)).set_ 6 (.slice sl.a was.l.length sl.c)).set_ 7 (.slice so.a was.ok.length so.c)))
      have HB32 := Lib.hid (hst2.blk HB31.out (show ¬ w.heap.size + 1 + 1 + 1 = w.heap.size + 1 + 1 + 1 + 1 by omega))
      have HX2 := Lib.hid (HX1.out.step hst2 fun b e => by omega)
      have HRV12 := Lib.hid ((HRV1.out.agree (hst2.agree.mono fun b hb => ⟨hb.2, fun e => by have := hb.1; omega⟩)).mono (G := In (w.heap.size + 5) W2.heap.size) fun b hb => ⟨hb.1, Nat.lt_of_lt_of_le hb.2 hz2⟩)
      have hd1 : W2.cell? ⟨w.heap.size + 1 + 1, 0, none⟩ = some (.pointer q) := (hst2.blk HB2b.out (show ¬ w.heap.size + 1 + 1 = w.heap.size + 1 + 1 + 1 + 1 by omega)).cell 0
      have l2 : w.heap.size + 1 + 1 < W2.heap.size := (hst2.blk HB2b.out (show ¬ w.heap.size + 1 + 1 = w.heap.size + 1 + 1 + 1 + 1 by omega)).lt
      have q0 : W2.cell? ⟨w.heap.size + 1 + 1 + 1 + 1, 0, none⟩ = some (.string k) := HB42.out.cell 0
      have q1 : W2.cell? ⟨w.heap.size + 1 + 1 + 1 + 1, 1, none⟩ = some (.bool true) := HB42.out.cell 1
      have q2 : W2.cell? ⟨w.heap.size + 1 + 1 + 1 + 1, 2, none⟩ = some (.int .i64 was.kind) := HB42.out.cell 2
      have q3 : W2.cell? ⟨w.heap.size + 1 + 1 + 1 + 1, 3, none⟩ = some (.bool was.b) := HB42.out.cell 3
      have q4 : W2.cell? ⟨w.heap.size + 1 + 1 + 1 + 1, 4, none⟩ = some (.int .i64 was.i) := HB42.out.cell 4
      have q5 : W2.cell? ⟨w.heap.size + 1 + 1 + 1 + 1, 5, none⟩ = some (.string was.t) := HB42.out.cell 5
      have q6 : W2.cell? ⟨w.heap.size + 1 + 1 + 1 + 1, 6, none⟩ = some (.slice sl.a was.l.length sl.c) := HB42.out.cell 6
      have q7 : W2.cell? ⟨w.heap.size + 1 + 1 + 1 + 1, 7, none⟩ = some (.slice so.a was.ok.length so.c) := HB42.out.cell 7
      have q8 : W2.cell? ⟨w.heap.size + 1 + 1 + 1 + 1, 8, none⟩ = some (.bool true) := HB42.out.cell 8
      have q9 : W2.cell? ⟨w.heap.size + 1 + 1 + 1 + 1, 9, none⟩ = some (.int .i64 0) := HB42.out.cell 9
      have q10 : W2.cell? ⟨w.heap.size + 1 + 1 + 1 + 1, 10, none⟩ = some (.bool false) := HB42.out.cell 10
      have q11 : W2.cell? ⟨w.heap.size + 1 + 1 + 1 + 1, 11, none⟩ = some (.int .i64 0) := HB42.out.cell 11
      have q12 : W2.cell? ⟨w.heap.size + 1 + 1 + 1 + 1, 12, none⟩ = some (.string ⟨#[]⟩) := HB42.out.cell 12
      have q13 : W2.cell? ⟨w.heap.size + 1 + 1 + 1 + 1, 13, none⟩ = some (.slice none 0 0) := HB42.out.cell 13
      have q14 : W2.cell? ⟨w.heap.size + 1 + 1 + 1 + 1, 14, none⟩ = some (.slice none 0 0) := HB42.out.cell 14
      have f4 := fun i => HB42.out.frozen i
      have l4 := HB42.out.lt
      have f3 : ∀ i, W2.frozen? ⟨w.heap.size + 1 + 1 + 1, i, none⟩ = false := fun i => HB32.out.frozen i
      have l3 : w.heap.size + 1 + 1 + 1 < W2.heap.size := HB32.out.lt
      have p0 : W2.cell? ⟨w.heap.size + 1 + 1 + 1, 0, none⟩ = some (.string ⟨#[]⟩) := HB32.out.cell 0
      have p1 : W2.cell? ⟨w.heap.size + 1 + 1 + 1, 1, none⟩ = some (.bool false) := HB32.out.cell 1
      have p2 : W2.cell? ⟨w.heap.size + 1 + 1 + 1, 2, none⟩ = some (.int .i64 0) := HB32.out.cell 2
      have p3 : W2.cell? ⟨w.heap.size + 1 + 1 + 1, 3, none⟩ = some (.bool false) := HB32.out.cell 3
      have p4 : W2.cell? ⟨w.heap.size + 1 + 1 + 1, 4, none⟩ = some (.int .i64 0) := HB32.out.cell 4
      have p5 : W2.cell? ⟨w.heap.size + 1 + 1 + 1, 5, none⟩ = some (.string ⟨#[]⟩) := HB32.out.cell 5
      have p6 : W2.cell? ⟨w.heap.size + 1 + 1 + 1, 6, none⟩ = some (.slice none 0 0) := HB32.out.cell 6
      have p7 : W2.cell? ⟨w.heap.size + 1 + 1 + 1, 7, none⟩ = some (.slice none 0 0) := HB32.out.cell 7
      have p8 : W2.cell? ⟨w.heap.size + 1 + 1 + 1, 8, none⟩ = some (.bool false) := HB32.out.cell 8
      have p9 : W2.cell? ⟨w.heap.size + 1 + 1 + 1, 9, none⟩ = some (.int .i64 0) := HB32.out.cell 9
      have p10 : W2.cell? ⟨w.heap.size + 1 + 1 + 1, 10, none⟩ = some (.bool false) := HB32.out.cell 10
      have p11 : W2.cell? ⟨w.heap.size + 1 + 1 + 1, 11, none⟩ = some (.int .i64 0) := HB32.out.cell 11
      have p12 : W2.cell? ⟨w.heap.size + 1 + 1 + 1, 12, none⟩ = some (.string ⟨#[]⟩) := HB32.out.cell 12
      have p13 : W2.cell? ⟨w.heap.size + 1 + 1 + 1, 13, none⟩ = some (.slice none 0 0) := HB32.out.cell 13
      have p14 : W2.cell? ⟨w.heap.size + 1 + 1 + 1, 14, none⟩ = some (.slice none 0 0) := HB32.out.cell 14
      clear hW2 hst2
      go_wp2_with fail
      clear q0 q1 q2 q3 q4 q5 q6 q7 q8 q9 q10 q11 q12 q13 q14 p0 p1 p2 p3 p4 p5 p6 p7 p8 p9 p10 p11 p12 p13 p14 f4 f3 l3 l4 hd1 l2
      refine (HG'.out W2 HX2.out).mono ?_
      rintro e w3 ⟨sl', so', rfl, hx3, hrv3⟩
      have hz3 := hx3.size
      have hb43 : Blk w3 (w.heap.size + 1 + 1 + 1 + 1) 54 #[.string k, .bool true, .int .i64 was.kind, .bool was.b, .int .i64 was.i, .string was.t, .slice sl.a was.l.length sl.c, .slice so.a was.ok.length so.c, .bool true, .int .i64 0, .bool false, .int .i64 0, .string ⟨#[]⟩, .slice none 0 0, .slice none 0 0] := HB42.out.ext hx3
      have hb33 := HB32.out.ext hx3
      have q0 : w3.cell? ⟨w.heap.size + 1 + 1 + 1 + 1, 0, none⟩ = some (.string k) := hb43.cell 0
      have q1 : w3.cell? ⟨w.heap.size + 1 + 1 + 1 + 1, 1, none⟩ = some (.bool true) := hb43.cell 1
      have q2 : w3.cell? ⟨w.heap.size + 1 + 1 + 1 + 1, 2, none⟩ = some (.int .i64 was.kind) := hb43.cell 2
      have q3 : w3.cell? ⟨w.heap.size + 1 + 1 + 1 + 1, 3, none⟩ = some (.bool was.b) := hb43.cell 3
      have q4 : w3.cell? ⟨w.heap.size + 1 + 1 + 1 + 1, 4, none⟩ = some (.int .i64 was.i) := hb43.cell 4
      have q5 : w3.cell? ⟨w.heap.size + 1 + 1 + 1 + 1, 5, none⟩ = some (.string was.t) := hb43.cell 5
      have q6 : w3.cell? ⟨w.heap.size + 1 + 1 + 1 + 1, 6, none⟩ = some (.slice sl.a was.l.length sl.c) := hb43.cell 6
      have q7 : w3.cell? ⟨w.heap.size + 1 + 1 + 1 + 1, 7, none⟩ = some (.slice so.a was.ok.length so.c) := hb43.cell 7
      have q8 : w3.cell? ⟨w.heap.size + 1 + 1 + 1 + 1, 8, none⟩ = some (.bool true) := hb43.cell 8
      have q9 : w3.cell? ⟨w.heap.size + 1 + 1 + 1 + 1, 9, none⟩ = some (.int .i64 0) := hb43.cell 9
      have q10 : w3.cell? ⟨w.heap.size + 1 + 1 + 1 + 1, 10, none⟩ = some (.bool false) := hb43.cell 10
      have q11 : w3.cell? ⟨w.heap.size + 1 + 1 + 1 + 1, 11, none⟩ = some (.int .i64 0) := hb43.cell 11
      have q12 : w3.cell? ⟨w.heap.size + 1 + 1 + 1 + 1, 12, none⟩ = some (.string ⟨#[]⟩) := hb43.cell 12
      have q13 : w3.cell? ⟨w.heap.size + 1 + 1 + 1 + 1, 13, none⟩ = some (.slice none 0 0) := hb43.cell 13
      have q14 : w3.cell? ⟨w.heap.size + 1 + 1 + 1 + 1, 14, none⟩ = some (.slice none 0 0) := hb43.cell 14
      have f4 := fun i => hb43.frozen i
      have l4 := hb43.lt
      have f3 : ∀ i, w3.frozen? ⟨w.heap.size + 1 + 1 + 1, i, none⟩ = false := fun i => hb33.frozen i
      have l3 : w.heap.size + 1 + 1 + 1 < w3.heap.size := hb33.lt
      have HX3 := Lib.hid (HX2.out.trans hx3)
      have HRV3 := Lib.hid (hrv3.mono (G := In (w.heap.size + 5) w3.heap.size) fun b hb => ⟨by have := hb.1; omega, hb.2⟩)
      have HB43 := Lib.hid hb43
      have HB33 := Lib.hid hb33
      have HRV123 := Lib.hid ((HRV12.out.agree (hx3.agree fun b hb => hb.2)).mono (G := In (w.heap.size + 5) w3.heap.size) fun b hb => ⟨hb.1, Nat.lt_of_lt_of_le hb.2 hz3⟩)
      clear hx3 hrv3 hb43 hb33
      go_upto_region 6 with (fail)
      clear q0 q1 q2 q3 q4 q5 q6 q7 q8 q9 q10 q11 q12 q13 q14 f4 f3 l3 l4
      generalize hW4 : ((((((w3.setCell ⟨w.heap.size + 1 + 1 + 1 + 1, 9, none⟩ (.int .i64 is_.kind)).setCell ⟨w.heap.size + 1 + 1 + 1 + 1, 10, none⟩ (.bool is_.b)).setCell ⟨w.heap.size + 1 + 1 + 1 + 1, 11, none⟩ (.int .i64 is_.i)).setCell ⟨w.heap.size + 1 + 1 + 1 + 1, 12, none⟩ (.string is_.t)).setCell ⟨w.heap.size + 1 + 1 + 1 + 1, 13, none⟩ (.slice sl'.a is_.l.length sl'.c)).setCell ⟨w.heap.size + 1 + 1 + 1 + 1, 14, none⟩ (.slice so'.a is_.ok.length so'.c)) = W4
      have hst4 : St (fun b => b = w.heap.size + 1 + 1 + 1 + 1) w3 W4 := by rw [← hW4]; exact (((((((St.refl (fun b => b = w.heap.size + 1 + 1 + 1 + 1) w3).set (p := ⟨w.heap.size + 1 + 1 + 1 + 1, 9, none⟩) (.inr rfl) _).set (p := ⟨w.heap.size + 1 + 1 + 1 + 1, 10, none⟩) (.inr rfl) _).set (p := ⟨w.heap.size + 1 + 1 + 1 + 1, 11, none⟩) (.inr rfl) _).set (p := ⟨w.heap.size + 1 + 1 + 1 + 1, 12, none⟩) (.inr rfl) _).set (p := ⟨w.heap.size + 1 + 1 + 1 + 1, 13, none⟩) (.inr rfl) _).set (p := ⟨w.heap.size + 1 + 1 + 1 + 1, 14, none⟩) (.inr rfl) _)
      have hz4 := hst4.size
      have HB44 := Lib.hid (show Blk W4 (w.heap.size + 1 + 1 + 1 + 1) 54 #[.string k, .bool true, .int .i64 was.kind, .bool was.b, .int .i64 was.i, .string was.t, .slice sl.a was.l.length sl.c, .slice so.a was.ok.length so.c, .bool true, .int .i64 is_.kind, .bool is_.b, .int .i64 is_.i, .string is_.t, .slice sl'.a is_.l.length sl'.c, .slice so'.a is_.ok.length so'.c] by rw [← hW4]; exact ((((((HB43.out.set_ 9 (.int .i64 is_.kind)).set_ 10 (.bool is_.b)).set_ 11 (.int .i64 is_.i)).set_ 12 (.string is_.t)).set_ 13 (.slice sl'.a is_.l.length sl'.c)).set_ 14 (.slice so'.a is_.ok.length so'.c)))
      have HB34 := Lib.hid (hst4.blk HB33.out (show ¬ w.heap.size + 1 + 1 + 1 = w.heap.size + 1 + 1 + 1 + 1 by omega))
      have HX4 := Lib.hid (HX3.out.step hst4 fun b e => by omega)
      have HRV1234 := Lib.hid ((HRV123.out.agree (hst4.agree.mono fun b hb => ⟨hb.2, fun e => by have := hb.1; omega⟩)).mono (G := In (w.heap.size + 5) W4.heap.size) fun b hb => ⟨hb.1, Nat.lt_of_lt_of_le hb.2 hz4⟩)
      have HRV34 := Lib.hid ((HRV3.out.agree (hst4.agree.mono fun b hb => ⟨hb.2, fun e => by have := hb.1; omega⟩)).mono (G := In (w.heap.size + 5) W4.heap.size) fun b hb => ⟨hb.1, Nat.lt_of_lt_of_le hb.2 hz4⟩)
      have q0 : W4.cell? ⟨w.heap.size + 1 + 1 + 1 + 1, 0, none⟩ = some (.string k) := HB44.out.cell 0
      have q1 : W4.cell? ⟨w.heap.size + 1 + 1 + 1 + 1, 1, none⟩ = some (.bool true) := HB44.out.cell 1
      have q2 : W4.cell? ⟨w.heap.size + 1 + 1 + 1 + 1, 2, none⟩ = some (.int .i64 was.kind) := HB44.out.cell 2
      have q3 : W4.cell? ⟨w.heap.size + 1 + 1 + 1 + 1, 3, none⟩ = some (.bool was.b) := HB44.out.cell 3
      have q4 : W4.cell? ⟨w.heap.size + 1 + 1 + 1 + 1, 4, none⟩ = some (.int .i64 was.i) := HB44.out.cell 4
      have q5 : W4.cell? ⟨w.heap.size + 1 + 1 + 1 + 1, 5, none⟩ = some (.string was.t) := HB44.out.cell 5
      have q6 : W4.cell? ⟨w.heap.size + 1 + 1 + 1 + 1, 6, none⟩ = some (.slice sl.a was.l.length sl.c) := HB44.out.cell 6
      have q7 : W4.cell? ⟨w.heap.size + 1 + 1 + 1 + 1, 7, none⟩ = some (.slice so.a was.ok.length so.c) := HB44.out.cell 7
      have q8 : W4.cell? ⟨w.heap.size + 1 + 1 + 1 + 1, 8, none⟩ = some (.bool true) := HB44.out.cell 8
      have q9 : W4.cell? ⟨w.heap.size + 1 + 1 + 1 + 1, 9, none⟩ = some (.int .i64 is_.kind) := HB44.out.cell 9
      have q10 : W4.cell? ⟨w.heap.size + 1 + 1 + 1 + 1, 10, none⟩ = some (.bool is_.b) := HB44.out.cell 10
      have q11 : W4.cell? ⟨w.heap.size + 1 + 1 + 1 + 1, 11, none⟩ = some (.int .i64 is_.i) := HB44.out.cell 11
      have q12 : W4.cell? ⟨w.heap.size + 1 + 1 + 1 + 1, 12, none⟩ = some (.string is_.t) := HB44.out.cell 12
      have q13 : W4.cell? ⟨w.heap.size + 1 + 1 + 1 + 1, 13, none⟩ = some (.slice sl'.a is_.l.length sl'.c) := HB44.out.cell 13
      have q14 : W4.cell? ⟨w.heap.size + 1 + 1 + 1 + 1, 14, none⟩ = some (.slice so'.a is_.ok.length so'.c) := HB44.out.cell 14
      have f4 := fun i => HB44.out.frozen i
      have l4 := HB44.out.lt
      have f3 : ∀ i, W4.frozen? ⟨w.heap.size + 1 + 1 + 1, i, none⟩ = false := fun i => HB34.out.frozen i
      have l3 : w.heap.size + 1 + 1 + 1 < W4.heap.size := HB34.out.lt
      have p0 : W4.cell? ⟨w.heap.size + 1 + 1 + 1, 0, none⟩ = some (.string ⟨#[]⟩) := HB34.out.cell 0
      have p1 : W4.cell? ⟨w.heap.size + 1 + 1 + 1, 1, none⟩ = some (.bool false) := HB34.out.cell 1
      have p2 : W4.cell? ⟨w.heap.size + 1 + 1 + 1, 2, none⟩ = some (.int .i64 0) := HB34.out.cell 2
      have p3 : W4.cell? ⟨w.heap.size + 1 + 1 + 1, 3, none⟩ = some (.bool false) := HB34.out.cell 3
      have p4 : W4.cell? ⟨w.heap.size + 1 + 1 + 1, 4, none⟩ = some (.int .i64 0) := HB34.out.cell 4
      have p5 : W4.cell? ⟨w.heap.size + 1 + 1 + 1, 5, none⟩ = some (.string ⟨#[]⟩) := HB34.out.cell 5
      have p6 : W4.cell? ⟨w.heap.size + 1 + 1 + 1, 6, none⟩ = some (.slice none 0 0) := HB34.out.cell 6
      have p7 : W4.cell? ⟨w.heap.size + 1 + 1 + 1, 7, none⟩ = some (.slice none 0 0) := HB34.out.cell 7
      have p8 : W4.cell? ⟨w.heap.size + 1 + 1 + 1, 8, none⟩ = some (.bool false) := HB34.out.cell 8
      have p9 : W4.cell? ⟨w.heap.size + 1 + 1 + 1, 9, none⟩ = some (.int .i64 0) := HB34.out.cell 9
      have p10 : W4.cell? ⟨w.heap.size + 1 + 1 + 1, 10, none⟩ = some (.bool false) := HB34.out.cell 10
      have p11 : W4.cell? ⟨w.heap.size + 1 + 1 + 1, 11, none⟩ = some (.int .i64 0) := HB34.out.cell 11
      have p12 : W4.cell? ⟨w.heap.size + 1 + 1 + 1, 12, none⟩ = some (.string ⟨#[]⟩) := HB34.out.cell 12
      have p13 : W4.cell? ⟨w.heap.size + 1 + 1 + 1, 13, none⟩ = some (.slice none 0 0) := HB34.out.cell 13
      have p14 : W4.cell? ⟨w.heap.size + 1 + 1 + 1, 14, none⟩ = some (.slice none 0 0) := HB34.out.cell 14
      clear hW4 hst4
      go_wp2_with fail
      clear q0 q1 q2 q3 q4 q5 q6 q7 q8 q9 q10 q11 q12 q13 q14 p0 p1 p2 p3 p4 p5 p6 p7 p8 p9 p10 p11 p12 p13 p14 f4 f3 l3 l4
      generalize hW5 : (((((((((((((((W4.setCell ⟨w.heap.size + 1 + 1 + 1, 0, none⟩ (.string k)).setCell ⟨w.heap.size + 1 + 1 + 1, 1, none⟩ (.bool true)).setCell ⟨w.heap.size + 1 + 1 + 1, 2, none⟩ (.int .i64 was.kind)).setCell ⟨w.heap.size + 1 + 1 + 1, 3, none⟩ (.bool was.b)).setCell ⟨w.heap.size + 1 + 1 + 1, 4, none⟩ (.int .i64 was.i)).setCell ⟨w.heap.size + 1 + 1 + 1, 5, none⟩ (.string was.t)).setCell ⟨w.heap.size + 1 + 1 + 1, 6, none⟩ (.slice sl.a was.l.length sl.c)).setCell ⟨w.heap.size + 1 + 1 + 1, 7, none⟩ (.slice so.a was.ok.length so.c)).setCell ⟨w.heap.size + 1 + 1 + 1, 8, none⟩ (.bool true)).setCell ⟨w.heap.size + 1 + 1 + 1, 9, none⟩ (.int .i64 is_.kind)).setCell ⟨w.heap.size + 1 + 1 + 1, 10, none⟩ (.bool is_.b)).setCell ⟨w.heap.size + 1 + 1 + 1, 11, none⟩ (.int .i64 is_.i)).setCell ⟨w.heap.size + 1 + 1 + 1, 12, none⟩ (.string is_.t)).setCell ⟨w.heap.size + 1 + 1 + 1, 13, none⟩ (.slice sl'.a is_.l.length sl'.c)).setCell ⟨w.heap.size + 1 + 1 + 1, 14, none⟩ (.slice so'.a is_.ok.length so'.c)) = W5
      have hb5 : Blk W5 (w.heap.size + 1 + 1 + 1) 54 #[.string k, .bool true, .int .i64 was.kind, .bool was.b, .int .i64 was.i, .string was.t, .slice sl.a was.l.length sl.c, .slice so.a was.ok.length so.c, .bool true, .int .i64 is_.kind, .bool is_.b, .int .i64 is_.i, .string is_.t, .slice sl'.a is_.l.length sl'.c, .slice so'.a is_.ok.length so'.c] := by rw [← hW5]; exact blk15 HB34.out
      have hst5 : St (fun b => b = w.heap.size + 1 + 1 + 1) W4 W5 := by rw [← hW5]; exact st15 (St.refl _ _) rfl
      have hx5 : Ext w W5 := HX4.out.step hst5 fun b e => by omega
      have hz5 := hst5.size
      clear hW5
      refine bodyPost_ret (res_again rfl hb5) rfl ?_
      exact ⟨⟨⟨k, true, was, true, is_⟩, sl, so, sl', so'⟩, rfl, rfl, hx5, (HRV1234.out.agree (hst5.agree.mono fun b hb => ⟨hb.2, fun e => by have := hb.1; omega⟩)).mono (G := In w.heap.size W5.heap.size) fun b hb => ⟨by have := hb.1; omega, Nat.lt_of_lt_of_le hb.2 hz5⟩, (HRV34.out.agree (hst5.agree.mono fun b hb => ⟨hb.2, fun e => by have := hb.1; omega⟩)).mono (G := In w.heap.size W5.heap.size) fun b hb => ⟨by have := hb.1; omega, Nat.lt_of_lt_of_le hb.2 hz5⟩, hk⟩
end Go.Proofs.YtohajcflklejjaaGreat
namespace Go.Proofs.YtohajcflklejjaaGreat
open Go.RowKit Go.Shelf Go.Maps
set_option linter.unusedVariables false
set_option linter.unusedSimpArgs false
attribute [local go_sem] Oper.semAt_some
theorem zeroIv (w : World) : (zeroValue 107).run Tryz.prog w = .ok (.agg #[.string ByteArray.empty, .string ByteArray.empty, .bool false]) w := by kernel_rfl
theorem look_at {W : World} {b g i : Nat} {L : Subs} {p : Nat × Iv} (hown : W.ownsMap Tryz.prog 34 ivR b g (mapD L)) (hp : L.find? (fun p => p.1 == i) = some p) (hi : i ≤ 18446744073709551615) :
    (Instr.lookup 35 (.map (some b)) (.int .u64 (i : Int)) false).run Tryz.prog W = .ok p.2.v W := by
  obtain ⟨v, ps, hrun, hv⟩ := hown.lookup u64Key Tryz.underlying35 (zeroIv W) (ivR_mk ⟨ByteArray.empty, ByteArray.empty, false⟩) (keyU i hi)
  rw [at_mapD hp] at hv
  rw [hrun, ivR_inv hv]
theorem len_map {w : World} {mb : Option Nat} {g : Nat} {L : Subs} (h : SubsMap w mb g L) : (Builtin.len_ #[35] 3 #[.map mb]).run Tryz.prog w = .ok (.int .i64 L.length) w := by
  cases mb with
  | none =>
    have : L = [] := h
    subst this
    simp [Builtin.len_, run_underlying Tryz.underlying35, goInt, Result.andThen]
  | some b => rw [World.ownsMap.len h Tryz.underlying35, size_mapD]
theorem find_at {L : Subs} {k : Nat} {p : Nat × Iv} (hr : L.Pairwise (fun p q => p.1 < q.1)) (hp : L[k]? = some p) : L.find? (fun q => q.1 == p.1) = some p := by
  obtain ⟨h1, h2⟩ := List.getElem?_eq_some_iff.1 hp
  rw [List.find?_eq_some_iff_getElem]
  refine ⟨by simp, k, h1, h2, fun j hj => ?_⟩
  have := List.pairwise_iff_getElem.1 hr j k (by omega) h1 hj
  rw [h2] at this
  simp; omega
def LivePost (L : Subs) (w : World) (e : Ending) (w' : World) : Prop := ∃ s : Sl, e = .returned (.slice s.a L.length s.c) ∧ w'.ownsRow w.heap.size 34 1 (.slice s.a L.length s.c) L.length (L.map fun p => valU p.1) ∧ Ext w w'
def AfterPost (R : Nat) (U : RT) (g : Nat) (mb : Option Nat) (L : Subs) (l : List Chg) (w : World) (e : Ending) (w' : World) : Prop :=
  ∃ (s : Sl) (evs : List EV), e = .returned (.slice s.a evs.length s.c) ∧ evs.map EV.p = evL L l ∧ RegAt w' R U g mb L ∧ St (fun b => b = R) w w' ∧ EVS w' (In w.heap.size w'.heap.size) s evs
theorem RegAt.head {w : World} {R : Nat} {T : RT} {g : Nat} {mb : Option Nat} {L : Subs} (h : RegAt w R T g mb L) (U : RT) : RegAt (w.setCell ⟨R, 0, none⟩ (rootV U)) R U g mb L :=
  ⟨h.blk.set_ 0 _, h.map.heap fun b hb => Below.heap_setCell _ _ _ _ (fun e => h.ne (by rw [hb]; exact congrArg some (by first | exact e | exact e.symm))), h.ne, h.up, h.rise, h.short, h.small⟩
theorem leaves_all {F : Fence} {n : Nat} {P : Program} {fn : Func} {tmps : Array Value} {Rr : Ending → World → Prop} : ∀ (ds : List Nat) (W : World), ds.Nodup → (∀ d ∈ ds, W.heap[d]? = some (.deferred (some []))) →
    (∀ W', St (fun b => b ∈ ds) W W' → LeavesInM F n P fn tmps Rr [] .returning W') → LeavesInM F n P fn tmps Rr (ds.map fun d => { target := .collected d, args := #[] }) .returning W
  | [], W, _, _, h => h W (St.refl _ W)
  | d :: ds, W, hn, hd, h => by
    have hn' := List.nodup_cons.1 hn
    have hd0 := hd d (List.mem_cons_self ..)
    have hk : St (fun b => b = d) W (W.putObj d (.deferred none)) := St.put hd0 rfl rfl
    refine ⟨by simp, .inl ⟨d, _, rfl, run_takeDeferred hd0, leaves_all ds _ hn'.2 (fun d' h' => ?_) fun W' hW' => h W' ?_⟩⟩
    · exact (World.putObj_heap_other (fun e => hn'.1 (by first | exact e ▸ h' | exact e.symm ▸ h'))).trans (hd d' (List.mem_cons_of_mem _ h'))
    · exact (hk.mono fun b _ e => by rw [e]; exact List.mem_cons_self ..).trans (hW'.mono fun b _ e => List.mem_cons_of_mem _ e)
structure OutI (lo B : Nat) (w5 : World) (L : Subs) (l : List Chg) (k : Nat) (ds : List Nat) (W : World) : Prop where
  co : ∃ N C evs, CollE lo B w5 N evs C W ∧ evs.map EV.p = evL (L.take k) l ∧ (∀ d ∈ ds, N d ∧ W.heap[d]? = some (.deferred (some [])))
  nd : ds.Nodup
  kl : k ≤ L.length
set_option maxRecDepth 100000 in
set_option maxHeartbeats 8000000 in
theorem after27_any {w : World} {R : Nat} {T U : RT} {g : Nat} {mb : Option Nat} {L : Subs} {F F' : Nat → Prop} (h : RegAt w R T g mb L) (hT : IsT w F T) (hU : IsT w F' U) (hF : ∀ b, F b → b < w.heap.size ∧ ¬ RegB R mb b) (hF' : ∀ b, F' b → b < w.heap.size ∧ ¬ RegB R mb b) (ok : OkR T) (ok' : OkR U)
    (hl : (entsT T).length ≤ 500000) (hl' : (entsT U).length ≤ 500000) (hn : L.length ≤ 100) (hlv : ∀ W, RegAt W R U g mb L → 0 < L.length → Calls Tryz.prog 23 #[.pointer (some ⟨R, 0, none⟩)] W (LivePost L W)) :
    Calls Tryz.prog 18 #[.pointer (some ⟨R, 0, none⟩), treeV U] w (AfterPost R U g mb L (chg (entsT T) (entsT U)) w) := by
  obtain ⟨i0, hi, hz0, hz1, hz2⟩ := info_parts Tryz.infoEvent
  obtain ⟨p, hp⟩ := rootV_ptr T
  obtain ⟨q, hq⟩ := rootV_ptr U
  have hlR := h.blk.lt
  have r0 : w.cell? ⟨R, 0, none⟩ = some (.pointer p) := by rw [← hp]; exact h.blk.cell 0
  have f0 := h.blk.frozen 0
  have HREG := Lib.hid h
  have HT := Lib.hid hT
  have HU := Lib.hid hU
  have HF := Lib.hid hF
  have HF' := Lib.hid hF'
  have HOK := Lib.hid ok
  have HOK' := Lib.hid ok'
  have HLV := Lib.hid hlv
  have HP := Lib.hid hp
  have HQ := Lib.hid hq
  rw [treeV, hq]
  clear h hT hU hF hF' ok ok' hlv hp hq
  refine (callsIn_wide (n := 6)).1 ?_
  refine callsIn_of_wp_marks Tryz.func18 rfl trivial ?_ rfl
  simp only [Tryz.ntmps18, List.size_toArray, List.length_cons, List.length_nil, Nat.reduceAdd, Nat.reduceSub, Array.replicate_succ, Array.replicate_zero, List.push_toArray, List.append_toArray, List.nil_append, List.cons_append]
  gi_upto_region 5 with (fail)
  generalize hW0 : World.alloc (World.alloc _ _) _ = W0
  have hst0 : St (fun b => b = R) w W0 := by rw [← hW0]; exact ((((St.refl (fun b => b = R) w).set (p := ⟨R, 0, none⟩) (.inr rfl) _).ext ((Ext.refl _).alloc _ _)).ext ((Ext.refl _).alloc _ _))
  have hreg0 : RegAt W0 R U g mb L := by rw [← hW0, ← HQ.out]; exact ((HREG.out.head U).ext ((Ext.refl _).alloc _ _)).ext ((Ext.refl _).alloc _ _)
  have hz0 : W0.heap.size = w.heap.size + 2 := by rw [← hW0]; simp
  have hbh : Blk W0 w.heap.size 33 #[.pointer q] := by
    rw [← hW0]
    have := Blk.new (w.setCell ⟨R, 0, none⟩ (.pointer q)) 33 #[.pointer q]
    rw [World.size_setCell] at this
    exact this.ext ((Ext.refl _).alloc _ _)
  have hbw : Blk W0 (w.heap.size + 1) 33 #[.pointer p] := by
    rw [← hW0]
    have := Blk.new ((w.setCell ⟨R, 0, none⟩ (.pointer q)).alloc (.cells #[.pointer q] 33)) 33 #[.pointer p]
    rw [World.size_alloc, World.size_setCell] at this
    exact this
  clear hW0 r0 f0
  have hT0 : IsT W0 F T := HT.out.agree (hst0.agree.mono fun b hb => ⟨(HF.out b hb).1, fun e => (HF.out b hb).2 (.inl e)⟩)
  have hU0 : IsT W0 F' U := HU.out.agree (hst0.agree.mono fun b hb => ⟨(HF'.out b hb).1, fun e => (HF'.out b hb).2 (.inl e)⟩)
  have hch := changes_any hT0 hU0 (fun b hb => by have := (HF.out b hb).1; omega) (fun b hb => by have := (HF'.out b hb).1; omega) HOK.out HOK'.out hl hl'
  rw [treeV, treeV, HP.out, HQ.out] at hch
  have r2 : W0.cell? ⟨R, 2, none⟩ = some (.map mb) := hreg0.blk.cell 2
  have t3 : W0.cell? ⟨w.heap.size, 0, none⟩ = some (.pointer q) := hbh.cell 0
  have t5 : W0.cell? ⟨w.heap.size + 1, 0, none⟩ = some (.pointer p) := hbw.cell 0
  have l3 := hbh.lt
  have l5 := hbw.lt
  have lR := hreg0.blk.lt
  have hlen := len_map hreg0.map
  obtain ⟨ch, hche⟩ : ∃ ch, chg (entsT T) (entsT U) = ch := ⟨_, rfl⟩
  have hcl : ch.length ≤ 1000000 := by rw [← hche]; have := chg_len (entsT T) (entsT U); omega
  rw [hche] at hch ⊢
  have HCE := Lib.hid hche
  have HCH := Lib.hid hch
  have HREG0 := Lib.hid hreg0
  have HST0 := Lib.hid hst0
  have HT0 := Lib.hid hT0
  have HU0 := Lib.hid hU0
  have HBH := Lib.hid hbh
  have HBW := Lib.hid hbw
  have HZ0 := Lib.hid hz0
  clear hche hch hreg0 hst0 hT0 hU0 hbh hbw hz0 HT HU HREG
  by_cases hL0 : L.length = 0
  · have g1 : ((L.length : Int) == 0) = true := by simp [hL0]
    have HNIL := Lib.hid (List.eq_nil_of_length_eq_zero hL0)
    clear hL0
    gi_wp2_with fail
    refine ⟨.slice none 0 0, by simp [results, Tryz.f18, go_sem], ⟨Sl.none, [], rfl, by rw [HNIL.out]; rfl, HREG0.out, HST0.out, EVS.nil _ _⟩⟩
  · have g1 : ((L.length : Int) == 0) = false := beq_eq_false_iff_ne.2 (by omega)
    gi_wp2_with fail
    refine ⟨trivial, ?_⟩
    refine (callsIn_wide.2 HCH.out).mono ?_
    rintro e w1 ⟨s, xs, rfl, hxs, hx1, hcs⟩
    have HX1 := Lib.hid hx1
    have HXS := Lib.hid hxs
    have HCS := Lib.hid hcs
    have hs1 := hx1.size
    by_cases hx0 : xs.length = 0
    · have g2 : ((xs.length : Int) == 0) = true := by simp [hx0]
      have HNIL := Lib.hid (List.eq_nil_of_length_eq_zero hx0)
      clear hx0 hx1 hxs hcs r2 t3 t5 hlen
      gi_wp2_with fail
      have HE := Lib.hid (show ([] : List EV).map EV.p = evL L ch by rw [← HXS.out, HNIL.out]; exact (evL_nil L).symm)
      refine ⟨.slice none 0 0, by simp [results, Tryz.f18, go_sem], ⟨Sl.none, [], rfl, by rw [HCE.out]; exact HE.out, HREG0.out.ext HX1.out, HST0.out.ext HX1.out, EVS.nil _ _⟩⟩
    · have g2 : ((xs.length : Int) == 0) = false := beq_eq_false_iff_ne.2 (by omega)
      clear hx1 hxs hcs r2 t3 t5 hlen
      gi_wp2_with fail
      have hxa : Ext w1 (w1.alloc (.cells #[.slice none 0 0] 48)) := (Ext.refl _).alloc _ _
      have hba := Blk.new w1 48 #[.slice none 0 0]
      have hza : (w1.alloc (.cells #[.slice none 0 0] 48)).heap.size = w1.heap.size + 1 := by simp
      generalize w1.alloc (.cells #[.slice none 0 0] 48) = wa at *
      refine ⟨trivial, ?_⟩
      refine (callsIn_wide.2 (HLV.out _ (HREG0.out.ext (HX1.out.trans hxa)) (by omega))).mono ?_
      rintro e w5 ⟨s5, rfl, hrow5, hx5⟩
      have HX5 := Lib.hid (HX1.out.trans (hxa.trans hx5))
      have HB5 := Lib.hid (hba.ext hx5)
      have HROW5 := Lib.hid hrow5
      have hz15 : w1.heap.size < w5.heap.size := by have := hx5.size; omega
      have HREG5 := Lib.hid (HREG0.out.ext HX5.out)
      have hxa' := hxa
      clear hxa hba hrow5
      gi_wp2_with fail
      -- the loop over the subscriptions
      have hmapL : (L.map fun p => valU p.1) = (L.map (·.1)).map valU := by rw [List.map_map]; rfl
      obtain ⟨gI, hsa5, hgI, hcI, hrowI⟩ := rowU_of_own (s := s5) (xs := L.map (·.1)) (by rw [List.length_map, ← hmapL]; exact HROW5.out) (by rw [List.length_map]; omega)
      obtain ⟨s5a, s5c⟩ := s5
      dsimp only at hsa5 hcI hrowI
      subst hsa5
      have hRB : ∀ b, RegB R mb b → b < w1.heap.size := fun b hb => by
        rcases hb with rfl | rfl
        · omega
        · exact Nat.lt_of_lt_of_le HREG0.out.map.lt hs1
      have hgl := hrowI.lt
      have hle5 : L.length ≤ s5c := by have := hrowI.le; simpa using this
      have HRI := Lib.hid hrowI
      have HRB := Lib.hid hRB
      have hz5' := hx5.size
      have HX15 := Lib.hid (hxa'.trans hx5)
      clear hrowI hRB hx5 hmapL
      refine wpIn_loop_ghost_k (fun n a W => ∃ (k : Nat) (ds : List Nat) (v9 v37 v38 v39 v40 v41 v42 v43 v44 v45 v46 v47 v58 : Value), n = L.length - k ∧ Hid (OutI w5.heap.size w1.heap.size w5 L ch k ds W) ∧ k ≤ L.length ∧ a = Act.mk #[Value.pointer (some ⟨R, 0, none⟩), Value.agg #[Value.pointer q], undef,
          Value.pointer (some ⟨w.heap.size, 0, none⟩), Value.slice none 0 0, Value.pointer (some ⟨w.heap.size + 1, 0, none⟩), Value.slice s.a xs.length s.c, Value.pointer (some ⟨w1.heap.size, 0, none⟩), undef, v9, undef,
          Value.pointer (some ⟨R, 0, none⟩), Value.bool false, Value.pointer (some ⟨R, 0, none⟩), Value.pointer (some ⟨R, 0, none⟩), Value.pointer (some ⟨R, 0, none⟩), Value.agg #[Value.pointer p],
          Value.pointer (some ⟨R, 0, none⟩), Value.agg #[Value.pointer q], Value.pointer (some ⟨R, 0, none⟩), Value.pointer (some ⟨R, 0, none⟩), Value.pointer (some ⟨R, 0, none⟩), Value.pointer (some ⟨R, 0, none⟩),
          Value.pointer (some ⟨R, 2, none⟩), Value.map mb, Value.int IntKind.i64 L.length, Value.bool false, Value.agg #[Value.pointer p], Value.agg #[Value.pointer q], Value.slice s.a xs.length s.c,
          Value.slice s.a xs.length s.c, Value.int IntKind.i64 xs.length, Value.bool false, Value.pointer (some ⟨R, 0, none⟩), Value.slice (some ⟨gI, 0, none⟩) L.length s5c, Value.int IntKind.i64 L.length, Value.int IntKind.i64 k,
          v37, v38, v39, v40, v41, v42, v43, v44, v45, v46, v47, undef, undef, undef, undef, undef, undef, undef, undef, undef, undef, v58, undef] (ds.map fun d => ({ target := .collected d, args := #[] } : Deferred))) L.length
        ⟨0, [], _, _, _, _, _, _, _, _, _, _, _, _, _, rfl, Lib.hid ⟨⟨_, _, [], CollE.start HB5.out (Nat.le_refl _), rfl, fun d hd => (by cases hd)⟩, List.nodup_nil, Nat.zero_le _⟩, Nat.zero_le _, rfl⟩ ?_
      intro gn ga wr hinv J K hJ hK
      obtain ⟨k, ds, v9, v37, v38, v39, v40, v41, v42, v43, v44, v45, v46, v47, v58, rfl, HO, hkl, rfl⟩ := hinv
      by_cases hk : k < L.length
      · obtain ⟨⟨id, iv⟩, hpk⟩ : ∃ pk, L[k]? = some pk := ⟨_, List.getElem?_eq_getElem hk⟩
        obtain ⟨⟨N, C0, evs, hco, hmap, hds⟩, hnd, -⟩ := HO.out
        have hst5 : St (fun b => b = w1.heap.size) w5 wr := hco.st
        have hszr := hst5.size
        have hBgI : ¬ gI = w1.heap.size := by omega
        have cI : wr.cell? ⟨gI, k, none⟩ = some (.int .u64 (id : Int)) := by
          have := HRI.out.cell (j := k) (by simpa using hk)
          rw [(hst5.cell hgl hBgI), this]
          have hk' : (L.map (·.1))[k]? = some id := by rw [List.getElem?_map, hpk]; rfl
          simp only [List.getElem!_toArray]
          rw [List.getElem!_eq_getElem?_getD, hk']; rfl
        have hregr : RegAt wr R U g mb L := HREG5.out.sb hst5.sb fun b hb e => by have := HRB.out b hb; omega
        have lgI : gI < wr.heap.size := by omega
        have r2 : wr.cell? ⟨R, 2, none⟩ = some (.map mb) := hregr.blk.cell 2
        have lRr := hregr.blk.lt
        have hid : id ≤ 4611686018427387904 := Nat.le_trans (hregr.up (id, iv) (List.mem_of_getElem? hpk)).2 hregr.small
        obtain ⟨bm, rfl⟩ : ∃ b, mb = some b := by
          cases mb with
          | none => have : L = [] := hregr.map; subst this; simp at hk
          | some b => exact ⟨b, rfl⟩
        have hown : wr.ownsMap Tryz.prog 34 ivR bm g (mapD L) := hregr.map
        have hfind := find_at hregr.rise hpk
        dsimp only at hfind
        have hx6 : Ext wr (wr.alloc (.cells #[.int .u64 (id : Int)] 34)) := (Ext.refl _).alloc _ _
        have hb6 := Blk.new wr 34 #[.int .u64 (id : Int)]
        have hz6 : (wr.alloc (.cells #[.int .u64 (id : Int)] 34)).heap.size = wr.heap.size + 1 := by simp
        have hk0 : (0 : Int) ≤ (k : Int) := by omega
        have hkL : (k : Int) < (L.length : Int) := by omega
        have HCO := Lib.hid hco
        have HMAP := Lib.hid hmap
        have HDS := Lib.hid hds
        have HND := Lib.hid hnd
        have HST5 := Lib.hid hst5
        have HPK := Lib.hid hpk
        clear hco hmap hds hnd hst5 hpk HO
        gi_wp2_with fail
        generalize wr.alloc (.cells #[.int .u64 (id : Int)] 34) = W6 at *
        have HSS := Lib.hid (show ∀ W, Ext W6 W → W.cell? ⟨R, 2, none⟩ = some (.map (some bm)) ∧ W.cell? ⟨wr.heap.size, 0, none⟩ = some (.int .u64 (id : Int)) ∧ (Instr.lookup 35 (.map (some bm)) (.int .u64 (id : Int)) false).run Tryz.prog W = .ok iv.v W from
          fun W hW => ⟨((hx6.trans hW).cell lRr).trans r2, (hb6.ext hW).cell 0, look_at (p := (id, iv)) (ownsMap_heap hown ((hx6.trans hW).heap hown.lt)) hfind (by omega)⟩)
        have HX6 := Lib.hid hx6
        have HB6 := Lib.hid hb6
        have lb6 := hb6.lt
        clear cI r2 hown hfind hx6 hb6 hregr
        refine wpIn_onlyN (wpIn_wide.2 ?_)
        refine wp_region_held_drew (S := (fun w' => Ext W6 w')) (by kernel_rfl) (((Ext.refl W6).drew)) (fun hHeld => ?_)
        refine held_on (i := 0) (d := (some 40)) (v := ?_) rfl rfl (by kernel_rfl) (by kernel_rfl) (by kernel_rfl) (fun _ _ _ h => h) (by rfl) hHeld ?_ ?_
        rotate_left
        focus (intro w hSw; have hSc := HSS.out w hSw; clear hSw; go_simp; first | done | with_reducible rfl)
        try simp only [Act.put, List.setIfInBounds_toArray, List.set_cons_zero, List.set_cons_succ]
        refine held_on (i := 1) (d := (some 41)) (v := ?_) rfl rfl (by kernel_rfl) (by kernel_rfl) (by kernel_rfl) (fun _ _ _ h => h) (by rfl) hHeld ?_ ?_
        rotate_left
        focus (intro w hSw; have hSc := HSS.out w hSw; clear hSw; go_simp; first | done | with_reducible rfl)
        try simp only [Act.put, List.setIfInBounds_toArray, List.set_cons_zero, List.set_cons_succ]
        refine held_on (i := 2) (d := (some 42)) (v := ?_) rfl rfl (by kernel_rfl) (by kernel_rfl) (by kernel_rfl) (fun _ _ _ h => h) (by rfl) hHeld ?_ ?_
        rotate_left
        focus (intro w hSw; have hSc := HSS.out w hSw; clear hSw; go_simp; first | done | with_reducible rfl)
        try simp only [Act.put, List.setIfInBounds_toArray, List.set_cons_zero, List.set_cons_succ]
        refine held_on (i := 3) (d := (some 43)) (v := ?_) rfl rfl (by kernel_rfl) (by kernel_rfl) (by kernel_rfl) (fun _ _ _ h => h) (by rfl) hHeld ?_ ?_
        rotate_left
        focus (intro w hSw; have hSc := HSS.out w hSw; clear hSw; go_simp; first | done | with_reducible rfl)
        try simp only [Act.put, List.setIfInBounds_toArray, List.set_cons_zero, List.set_cons_succ]
        refine held_on (i := 4) (d := (some 44)) (v := ?_) rfl rfl (by kernel_rfl) (by kernel_rfl) (by kernel_rfl) (fun _ _ _ h => h) (by rfl) hHeld ?_ ?_
        rotate_left
        focus (intro w hSw; have hSc := HSS.out w hSw; clear hSw; go_simp; first | done | with_reducible rfl)
        try simp only [Act.put, List.setIfInBounds_toArray, List.set_cons_zero, List.set_cons_succ]
        refine held_on (i := 5) (d := (some 45)) (v := ?_) rfl rfl (by kernel_rfl) (by kernel_rfl) (by kernel_rfl) (fun _ _ _ h => h) (by rfl) hHeld ?_ ?_
        rotate_left
        focus (intro w hSw; have hSc := HSS.out w hSw; clear hSw; go_simp; first | done | with_reducible rfl)
        try simp only [Act.put, List.setIfInBounds_toArray, List.set_cons_zero, List.set_cons_succ]
        refine held_on (i := 6) (d := (some 46)) (v := ?_) rfl rfl (by kernel_rfl) (by kernel_rfl) (by kernel_rfl) (fun _ _ _ h => h) (by rfl) hHeld ?_ ?_
        rotate_left
        focus (intro w hSw; have hSc := HSS.out w hSw; clear hSw; go_simp; first | done | with_reducible rfl)
        try simp only [Act.put, List.setIfInBounds_toArray, List.set_cons_zero, List.set_cons_succ]
        refine held_call (i := 7) (by kernel_rfl) rfl (by rfl) (fun K hK => ?_)
        go_simp
        (refine (sift_any _ s.a xs.length s.c iv).mono ?_; rintro e w2 ⟨rfl, hx2, hbs1, hbs2⟩)
        refine hK.out _ _ (hHeld.trans hx2) (fun hHeld => ?_)
        clear hK K
        try simp only [Act.put, List.setIfInBounds_toArray, List.set_cons_zero, List.set_cons_succ]
        refine wpAnyH_done (by kernel_rfl) ?_ _
        refine onlyN_mk ?_
        have hx26 := HX6.out.trans hHeld
        have hB6 : Blk w2 wr.heap.size 34 #[.int .u64 (id : Int)] := HB6.out.ext hHeld
        have hz26 := hHeld.size
        have hA12 : ∀ b, b < w1.heap.size → w2.heap[b]? = w1.heap[b]? := fun b hb => (hx26.heap (by omega)).trans ((HST5.out.block b (by omega) (by omega)).trans (HX15.out.heap hb))
        have hcs2 : CS w2 (In W0.heap.size w1.heap.size) s xs := HCS.out.agr27 fun b hb => hA12 b hb.2
        have hrx : RiseX xs := by
          have := chg_rise HOK.out.sorted HOK'.out.sorted
          rw [HCE.out, ← HXS.out] at this
          exact List.pairwise_map.1 this
        have hxl : xs.length ≤ 1000000 := by
          have := congrArg List.length HXS.out
          rw [List.length_map] at this
          omega
        have HSQ := Lib.hid (sift_seq (w0 := w2) hbs1 hbs2 hcs2 (fun b hb => by have := hb.2; omega) hxl (by omega) hrx)
        have hlb2 := hbs2.lt
        have hlb1 := hbs1.lt
        obtain ⟨s0, hC0, hblk0, hown0⟩ := HCO.out.ex
        have hC0l : ∀ b, C0 b → b = w1.heap.size ∨ (w5.heap.size ≤ b ∧ b < wr.heap.size) := fun b hb => by
          rw [hC0] at hb
          exact hb.imp (fun h => h) fun h => own_row hown0 h
        have HC0L := Lib.hid hC0l
        have HCO2 := Lib.hid (HCO.out.more hx26 (fun b h => .inl h) HCO.out.lt)
        have hev : evs.length ≤ 100 * 1000000 := by
          have h1 := congrArg List.length HMAP.out
          have h2 := evL_len ch (L.take k)
          rw [List.length_map] at h1
          rw [List.length_take] at h2
          have h3 : min k L.length * ch.length ≤ 100 * 1000000 := Nat.mul_le_mul (by omega) hcl
          omega
        have HX26 := Lib.hid hx26
        have HB62 := Lib.hid hB6
        have HA12 := Lib.hid hA12
        have hz6r := hx26.size
        have hwz : W6.drew.heap.size = W6.heap.size := rfl
        clear hHeld hbs1 hbs2 hcs2 hrx hx26 hB6 hA12 hC0l hC0 hblk0 hown0
        gi_wp2_with fail
        refine wpIn_rangeC (gf := 69) (lb := #[.pointer (some ⟨W6.heap.size, 0, none⟩), .pointer (some ⟨W6.heap.size + 1, 0, none⟩)]) rfl (enters_of Tryz.func69 (by kernel_rfl) rfl) HSQ.out (Agree.refl _) (Nat.le_refl _)
          (fun b hb => hb.elim (fun h => by have := h.2; omega) (fun h => h.elim (fun h => by omega) (fun h => by omega))) (fun _ => rfl)
          (fun pre C W => ∃ ys : List EV, CollE w5.heap.size w1.heap.size w5 (fun b => N b ∨ b = w2.heap.size ∨ b = w2.heap.size + 1) ys C W ∧ ys.map EV.p = evs.map EV.p ++ pre.map (fun x => (id, x.c)) ∧ St C0 w2 W ∧ ∀ b, C b → C0 b ∨ w2.heap.size + 2 ≤ b) (fun _ _ _ => False) C0
          (fun b hb => by
            have h1 := HC0L.out b hb
            exact ⟨by omega, fun h => by rcases h with h | h | h
                                         · have := h.2; omega
                                         · omega
                                         · omega⟩)
          (fun h k => by obtain ⟨ys, h1, h2, h3, h4⟩ := h; exact ⟨ys, h1.turn k (fun b e => .inr (.inr e)) (Nat.le_refl _), h2, h3.then k (fun i hi e => by omega), h4⟩) (fun h k => h)
          (fun W hW hz => ⟨evs, HCO2.out.more hW (fun b h => h.elim .inl fun h => .inr (by omega)) HCO2.out.lt, by simp, hW.st _, fun b hb => .inl hb⟩) ?round ?done ?stop
        case stop =>
          rintro D c pre W hD hSp hX
          exact hX.elim
        case round =>
          rintro pre C x W0' W1' ⟨ys, hco, hmapy, hsty, hsub⟩ hlt hsz hnL hx01 hG
          have hco' := hco
          obtain ⟨⟨s9, rfl, hblk, hown⟩, -⟩ := hco'
          have hyl : ys.length = evs.length + pre.length := by have := congrArg List.length hmapy; simpa using this
          have hpl' : pre.length < xs.length := by
            have h1 := (List.getElem?_eq_some_iff.1 hG.at_).1
            have h2 := List.length_filter_le (fun x : CE => withB x.c.k iv.lo iv.hi iv.op) xs
            exact Nat.lt_of_lt_of_le h1 h2
          have hb3 := Blk.new W1' 54 x.cells
          have hx3 : Ext W1' (W1'.alloc (.cells x.cells 54)) := (Ext.refl W1').alloc _ _
          have HB3 := Lib.hid hb3
          have HX3 := Lib.hid hx3
          have HI := Lib.hid hco
          have HMAPY := Lib.hid hmapy
          have HBLK := Lib.hid hblk
          have HOWN := Lib.hid hown
          have HX01 := Lib.hid hx01
          have HSTY := Lib.hid hsty
          have HSUB := Lib.hid hsub
          have HXM := Lib.hid hG.mem
          have heyl : ys.length < 101 * 1000000 := by omega
          clear hyl hb3 hx3 hblk hown hco hmapy hx01 hG hlt hsty hsub
          dsimp only [encC]
          gi_wp2_with fail
          refine ⟨HX3.out, fun W3 k3 => ?_⟩
          have hs1W := HX01.out.size
          have h13 : St (fun b => b = w2.heap.size + 1) W1' W3 := (HX3.out.st _).trans k3
          have h03 : St (fun b => b = w2.heap.size + 1) W0' W3 := (HX01.out.st _).trans h13
          have hbv := k3.blk HB3.out (by omega)
          have hrow0 : ∀ b, s9.row = some b → w5.heap.size ≤ b ∧ b < W0'.heap.size := fun b hb => own_row HOWN.out hb
          have hL3 := h03.blk HBLK.out (by omega)
          have cL : W3.cell? ⟨w1.heap.size, 0, none⟩ = some (.slice s9.a ys.length s9.c) := hL3.cell 0
          have fL := hL3.frozen 0
          have lL := hL3.lt
          have hs03 := h03.size
          have hs13 := h13.size
          have hst3 : St (fun b => C0 b ∨ b = w2.heap.size + 1) w2 W3 := (HSTY.out.mono fun i _ hi => .inl hi).trans (h03.mono fun i _ hi => .inr hi)
          have hn3 : ∀ b, b < w1.heap.size → ¬ (C0 b ∨ b = w2.heap.size + 1) := fun b hb e => by
            rcases e with e | e
            · have := HC0L.out b e; omega
            · omega
          have hA13 : ∀ b, b < w1.heap.size → W3.heap[b]? = w1.heap[b]? := fun b hb => (hst3.block b (by omega) (hn3 b hb)).trans (HA12.out b hb)
          have hbi : Blk W3 wr.heap.size 34 #[.int .u64 (id : Int)] := hst3.blk HB62.out fun e => by
            rcases e with e | e
            · have := HC0L.out _ e; omega
            · omega
          have hbh : Blk W3 w.heap.size 33 #[.pointer q] := (hA13 _ (by omega)).trans (HBH.out.ext HX1.out)
          have hbw : Blk W3 (w.heap.size + 1) 33 #[.pointer p] := (hA13 _ (by omega)).trans (HBW.out.ext HX1.out)
          have hAT : ∀ W, Ext W3 W → ∀ b, b < W0.heap.size → W.heap[b]? = W0.heap[b]? := fun W hW b hb => (hW.heap (by omega)).trans ((hA13 b (by omega)).trans (HX1.out.heap hb))
          have hmc : x.c ∈ chg (entsT T) (entsT U) := by rw [HCE.out, ← HXS.out]; exact List.mem_map_of_mem HXM.out
          have hag : ∀ W, Ext W3 W → Calls Tryz.prog 49 #[x.agg, .agg #[.pointer p], .agg #[.pointer q]] W fun e w' => ∃ y : CE, e = .returned y.agg ∧ y.c = x.c ∧ Ext W w' ∧ CR w' (In W.heap.size w'.heap.size) y := fun W hW => by
            have hz := hW.size
            have := again_any (w := W) (T := T) (U := U) (HT0.out.agree fun b hb => hAT W hW b (by have := (HF.out b hb).1; omega)) (HU0.out.agree fun b hb => hAT W hW b (by have := (HF'.out b hb).1; omega)) (fun b hb => by have := (HF.out b hb).1; omega) (fun b hb => by have := (HF'.out b hb).1; omega) HOK.out HOK'.out (by omega) (by omega)
              (chgOf_mem HOK.out.sorted HOK'.out.sorted hmc) (chg_or HOK.out.sorted HOK'.out.sorted hmc) (HCS.out.vals x HXM.out).key
            rw [treeV, treeV, HP.out, HQ.out] at this
            exact this
          have HAG := Lib.hid hag
          have HSA := Lib.hid (show ∀ W, Ext W3 W → SameAt [W1'.heap.size, wr.heap.size, w.heap.size + 1, w.heap.size] W3 W from fun W hW => SameAt.of_ext hW fun b hb => by
            have h0 := hbv.lt
            have h1 := hbi.lt
            have h2 := hbw.lt
            have h3 := hbh.lt
            simp only [List.mem_cons, List.not_mem_nil, or_false] at hb
            rcases hb with rfl | rfl | rfl | rfl <;> assumption)
          have HSS := Lib.hid (fun (w' : World) (h : SameAt [W1'.heap.size, wr.heap.size, w.heap.size + 1, w.heap.size] W3 w') => (show _ ∧ _ from s18_at hbv hbi hbw hbh h))
          have H03 := Lib.hid h03
          have HOWN3 := Lib.hid (own_agree HOWN.out h03.agree fun b hb => ⟨(hrow0 b hb).2, fun e => by
            exact HI.out.dis b (.inr hb) (.inr (.inr e))⟩)
          have HL3 := Lib.hid hL3
          have hneL : s9.row ≠ some w1.heap.size := fun e => by have := (hrow0 _ e).1; omega
          have hneS : ∀ b ∈ [W1'.heap.size, wr.heap.size, w.heap.size + 1, w.heap.size], s9.row ≠ some b := fun b hb e => by
            have h1 := hrow0 b e
            simp only [List.mem_cons, List.not_mem_nil, or_false] at hb
            rcases hb with rfl | rfl | rfl | rfl
            · omega
            · have h2 := HSUB.out _ (.inr e)
              rcases h2 with h2 | h2
              · have := HC0L.out _ h2; omega
              · omega
            · omega
            · omega
          have hneB : ∀ b ∈ [W1'.heap.size, wr.heap.size, w.heap.size + 1, w.heap.size], ¬ b = w1.heap.size := fun b hb => by
            simp only [List.mem_cons, List.not_mem_nil, or_false] at hb
            rcases hb with rfl | rfl | rfl | rfl <;> omega
          have hltS : ∀ W, Ext W3 W → ∀ b ∈ [W1'.heap.size, wr.heap.size, w.heap.size + 1, w.heap.size], b < W.heap.size := fun W hW b hb => by
            have hz := hW.size
            have h0 := hbv.lt
            simp only [List.mem_cons, List.not_mem_nil, or_false] at hb
            rcases hb with rfl | rfl | rfl | rfl <;> omega
          have HNES := Lib.hid hneS
          have HNEB := Lib.hid hneB
          have HLTS := Lib.hid hltS
          have h63 : ys.length + 1 ≤ maxLen := by unfold maxLen; omega
          have hby : (ys.length + 1) * 216 ≤ 140737488355328 := by omega
          clear k3 h03 h13 hbv hL3 hst3 hn3 hA13 hbi hbh hbw hAT hmc hag hneS hneB hltS
          gi_wp2_with fail
          refine wpIn_region_roundE (f := 49) (enters_of Tryz.func49 (by kernel_rfl) rfl) (S := (fun w' => SameAt [W1'.heap.size, wr.heap.size, w.heap.size + 1, w.heap.size] W3 w')) (by kernel_rfl) (by rintro ⟨a, w, h⟩; exact h) (by kernel_rfl) ((HSA.out _ ((Ext.refl W3).drew))) (fun hHeld => ?_)
          refine held_on (i := 1) (d := (some 50)) (v := ?_) rfl rfl (by kernel_rfl) (by kernel_rfl) (by kernel_rfl) (fun _ _ _ h => h) (by rfl) hHeld ?_ ?_
          rotate_left
          focus (intro w hSw; have hSc := HSS.out w hSw; clear hSw; go_simp; first | done | with_reducible rfl)
          try simp only [Act.put, List.setIfInBounds_toArray, List.set_cons_zero, List.set_cons_succ]
          refine held_on (i := 2) (d := (some 51)) (v := ?_) rfl rfl (by kernel_rfl) (by kernel_rfl) (by kernel_rfl) (fun _ _ _ h => h) (by rfl) hHeld ?_ ?_
          rotate_left
          focus (intro w hSw; have hSc := HSS.out w hSw; clear hSw; go_simp; first | done | with_reducible rfl)
          try simp only [Act.put, List.setIfInBounds_toArray, List.set_cons_zero, List.set_cons_succ]
          refine held_on (i := 3) (d := (some 52)) (v := ?_) rfl rfl (by kernel_rfl) (by kernel_rfl) (by kernel_rfl) (fun _ _ _ h => h) (by rfl) hHeld ?_ ?_
          rotate_left
          focus (intro w hSw; have hSc := HSS.out w hSw; clear hSw; go_simp; first | done | with_reducible rfl)
          try simp only [Act.put, List.setIfInBounds_toArray, List.set_cons_zero, List.set_cons_succ]
          refine held_on (i := 4) (d := (some 53)) (v := ?_) rfl rfl (by kernel_rfl) (by kernel_rfl) (by kernel_rfl) (fun _ _ _ h => h) (by rfl) hHeld ?_ ?_
          rotate_left
          focus (intro w hSw; have hSc := HSS.out w hSw; clear hSw; go_simp; first | done | with_reducible rfl)
          try simp only [Act.put, List.setIfInBounds_toArray, List.set_cons_zero, List.set_cons_succ]
          refine held_two (i := 0) (j := 5) (by kernel_rfl) rfl rfl (by rfl) (by rfl) (fun K hK => ?_) (fun K hK => ?_)
          · go_simp
            skip
            refine hK.out _ _ (hHeld) (fun hHeld => ?_)
            clear hK K
            try simp only [Act.put, List.setIfInBounds_toArray, List.set_cons_zero, List.set_cons_succ]
            refine held_call (i := 5) (by kernel_rfl) rfl (by rfl) (fun K hK => ?_)
            go_simp
            (refine (HAG.out _ ((Ext.refl W3).drew)).mono ?_; rintro e w8 ⟨y, rfl, hyc, hx8, hcr8⟩; have H8 := Lib.hid (((Ext.refl W3).drew).trans hx8); have HCR8 := Lib.hid hcr8; have HYC := Lib.hid hyc; have cL8 : w8.cell? ⟨w1.heap.size, 0, none⟩ = some (.slice s9.a ys.length s9.c) := (HL3.out.ext H8.out).cell 0; have lL8 : w1.heap.size < w8.heap.size := (HL3.out.ext H8.out).lt; have hs8 := H8.out.size; clear hx8 hcr8 hyc)
            refine hK.out _ _ (HSA.out _ H8.out) (fun hHeld => ?_)
            clear hK K
            try simp only [Act.put, List.setIfInBounds_toArray, List.set_cons_zero, List.set_cons_succ]
            refine held_on (i := 6) (d := (some 55)) (v := ?_) rfl rfl (by kernel_rfl) (by kernel_rfl) (by kernel_rfl) (fun _ _ _ h => h) (by rfl) hHeld ?_ ?_
            rotate_left
            focus (intro w hSw; have hSc := HSS.out w hSw; clear hSw; go_simp; first | done | with_reducible rfl)
            try simp only [Act.put, List.setIfInBounds_toArray, List.set_cons_zero, List.set_cons_succ]
            refine held_call (i := 7) (by kernel_rfl) rfl (by rfl) (fun K hK => ?_)
            go_simp
            skip
            refine hK.out _ _ (HSA.out _ (H8.out.alloc _ _)) (fun hHeld => ?_)
            clear hK K
            try simp only [Act.put, List.setIfInBounds_toArray, List.set_cons_zero, List.set_cons_succ]
            refine held_call (i := 8) (by kernel_rfl) rfl (by rfl) (fun K hK => ?_)
            skip
            refine wp_append_x _ (.tmp 49) (.tmp 56) 48 rfl w5.heap.size 56 i0 _ 16 216 Tryz.underlying48 hi hz0 hz1 hz2 rfl (by decide) s9 ys.length (flatV ys) (by rfl) (own_agree (own_agree HOWN3.out (H8.out.agree fun b (hb : b < W3.heap.size) => hb) (fun b hb => (own_row HOWN3.out hb).2)) (((Ext.refl w8).alloc (EV.cells ⟨id, y⟩) 56).agree fun b (hb : b < w8.heap.size) => hb) (fun b hb => (by have := (hrow0 b hb).2; omega))) (fun b => b = w8.heap.size) ⟨some ⟨w8.heap.size, 0, none⟩, 1⟩ 1 (EV.cells ⟨id, y⟩).toList (by rfl) (Rd.block (Blk.new w8 56 (EV.cells ⟨id, y⟩)) (by decide) rfl) (ev_one ⟨id, y⟩) h63 hby (by rw [World.size_alloc]; omega) ?_; intro s3 w9 hown9 hwr9 hs9; have h9 := hwr9.cell0 (o := 0) ((Ext.refl w8).alloc (EV.cells ⟨id, y⟩) 56) hneL lL8; have cL9 : w9.cell? ⟨w1.heap.size, 0, none⟩ = some (.slice s9.a ys.length s9.c) := h9.1.trans cL8; have lL9 := h9.2; have fL9 : w9.frozen? ⟨w1.heap.size, 0, none⟩ = false := (hwr9.fz _ _).trans ((((Ext.refl w8).alloc (EV.cells ⟨id, y⟩) 56).frozen (o := 0) lL8).trans ((H8.out.frozen (o := 0) lL).trans fL)); have hS9 : SameAt [W1'.heap.size, wr.heap.size, w.heap.size + 1, w.heap.size] W3 w9 := (HSA.out _ H8.out).wr hwr9 ((Ext.refl w8).alloc (EV.cells ⟨id, y⟩) 56) HNES.out (HLTS.out _ H8.out); have HO9 := Lib.hid hown9; have HW9 := Lib.hid hwr9; have HS9 := Lib.hid hs9; clear hown9 hwr9 hs9 h9
            refine hK.out _ _ (hS9) (fun hHeld => ?_)
            clear hK K
            try simp only [Act.put, List.setIfInBounds_toArray, List.set_cons_zero, List.set_cons_succ]
            refine held_call (i := 9) (by kernel_rfl) rfl (by rfl) (fun K hK => ?_)
            go_simp
            skip
            refine hK.out _ _ (hS9.set HNEB.out) (fun hHeld => ?_)
            clear hK K
            try simp only [Act.put, List.setIfInBounds_toArray, List.set_cons_zero, List.set_cons_succ]
            refine wpAnyH_done (by kernel_rfl) ?_ _
            gi_wp2_with fail
            have hdz : W3.drew.heap.size = W3.heap.size := rfl
            obtain ⟨e1, e2, e3, e4⟩ := collE_end (w := w5) (W3 := w8) (x := ⟨id, y⟩) (M := fun b => b = w2.heap.size + 1) (Nat.le_refl _) hz15 HI.out HBLK.out HOWN.out (H03.out.trans (H8.out.st _)) (fun b e => .inr (.inr e)) (HCR8.out.mono fun b hb => ⟨by have := hb.1; omega, hb.2, fun e => (by have h1 := hb.1; exact e.elim (fun e => by omega) (fun e => by have := (hrow0 b e).2; omega)), fun e => by have := HI.out.nlt b e; have := hb.1; omega⟩) ((Ext.refl w8).alloc (EV.cells ⟨id, y⟩) 56) HO9.out HW9.out HS9.out
            refine ⟨_, ⟨ys ++ [⟨id, y⟩], e1, by rw [List.map_append, List.map_append, HMAPY.out, List.append_assoc]; show _ ++ (_ ++ [(id, y.c)]) = _ ++ (_ ++ [(id, x.c)]); rw [HYC.out], (HSTY.out.then ((H03.out.trans (H8.out.st _))) (fun i hi e => by omega)).then e2 (fun i hi e => (HSUB.out i e).elim (fun e => e) (fun e => by omega)), fun b hb => (e3 b hb).elim (HSUB.out b) fun h => .inr (by omega)⟩, ?_, ?_, e4⟩
            · exact (H8.out.st _).trans e2
            · exact fun b hb => (e3 b hb).imp (fun h => h) fun h => by omega
          · go_simp
            (refine (HAG.out _ ((Ext.refl W3).drew)).mono ?_; rintro e w8 ⟨y, rfl, hyc, hx8, hcr8⟩; have H8 := Lib.hid (((Ext.refl W3).drew).trans hx8); have HCR8 := Lib.hid hcr8; have HYC := Lib.hid hyc; have cL8 : w8.cell? ⟨w1.heap.size, 0, none⟩ = some (.slice s9.a ys.length s9.c) := (HL3.out.ext H8.out).cell 0; have lL8 : w1.heap.size < w8.heap.size := (HL3.out.ext H8.out).lt; have hs8 := H8.out.size; clear hx8 hcr8 hyc)
            refine hK.out _ _ (HSA.out _ H8.out) (fun hHeld => ?_)
            clear hK K
            try simp only [Act.put, List.setIfInBounds_toArray, List.set_cons_zero, List.set_cons_succ]
            refine held_on (i := 6) (d := (some 55)) (v := ?_) rfl rfl (by kernel_rfl) (by kernel_rfl) (by kernel_rfl) (fun _ _ _ h => h) (by rfl) hHeld ?_ ?_
            rotate_left
            focus (intro w hSw; have hSc := HSS.out w hSw; clear hSw; go_simp; first | done | with_reducible rfl)
            try simp only [Act.put, List.setIfInBounds_toArray, List.set_cons_zero, List.set_cons_succ]
            refine held_two (i := 0) (j := 7) (by kernel_rfl) rfl rfl (by rfl) (by rfl) (fun K hK => ?_) (fun K hK => ?_)
            · go_simp
              skip
              refine hK.out _ _ (hHeld) (fun hHeld => ?_)
              clear hK K
              try simp only [Act.put, List.setIfInBounds_toArray, List.set_cons_zero, List.set_cons_succ]
              refine held_call (i := 7) (by kernel_rfl) rfl (by rfl) (fun K hK => ?_)
              go_simp
              skip
              refine hK.out _ _ (HSA.out _ (H8.out.alloc _ _)) (fun hHeld => ?_)
              clear hK K
              try simp only [Act.put, List.setIfInBounds_toArray, List.set_cons_zero, List.set_cons_succ]
              refine held_call (i := 8) (by kernel_rfl) rfl (by rfl) (fun K hK => ?_)
              skip
              refine wp_append_x _ (.tmp 49) (.tmp 56) 48 rfl w5.heap.size 56 i0 _ 16 216 Tryz.underlying48 hi hz0 hz1 hz2 rfl (by decide) s9 ys.length (flatV ys) (by rfl) (own_agree (own_agree HOWN3.out (H8.out.agree fun b (hb : b < W3.heap.size) => hb) (fun b hb => (own_row HOWN3.out hb).2)) (((Ext.refl w8).alloc (EV.cells ⟨id, y⟩) 56).agree fun b (hb : b < w8.heap.size) => hb) (fun b hb => (by have := (hrow0 b hb).2; omega))) (fun b => b = w8.heap.size) ⟨some ⟨w8.heap.size, 0, none⟩, 1⟩ 1 (EV.cells ⟨id, y⟩).toList (by rfl) (Rd.block (Blk.new w8 56 (EV.cells ⟨id, y⟩)) (by decide) rfl) (ev_one ⟨id, y⟩) h63 hby (by rw [World.size_alloc]; omega) ?_; intro s3 w9 hown9 hwr9 hs9; have h9 := hwr9.cell0 (o := 0) ((Ext.refl w8).alloc (EV.cells ⟨id, y⟩) 56) hneL lL8; have cL9 : w9.cell? ⟨w1.heap.size, 0, none⟩ = some (.slice s9.a ys.length s9.c) := h9.1.trans cL8; have lL9 := h9.2; have fL9 : w9.frozen? ⟨w1.heap.size, 0, none⟩ = false := (hwr9.fz _ _).trans ((((Ext.refl w8).alloc (EV.cells ⟨id, y⟩) 56).frozen (o := 0) lL8).trans ((H8.out.frozen (o := 0) lL).trans fL)); have hS9 : SameAt [W1'.heap.size, wr.heap.size, w.heap.size + 1, w.heap.size] W3 w9 := (HSA.out _ H8.out).wr hwr9 ((Ext.refl w8).alloc (EV.cells ⟨id, y⟩) 56) HNES.out (HLTS.out _ H8.out); have HO9 := Lib.hid hown9; have HW9 := Lib.hid hwr9; have HS9 := Lib.hid hs9; clear hown9 hwr9 hs9 h9
              refine hK.out _ _ (hS9) (fun hHeld => ?_)
              clear hK K
              try simp only [Act.put, List.setIfInBounds_toArray, List.set_cons_zero, List.set_cons_succ]
              refine held_call (i := 9) (by kernel_rfl) rfl (by rfl) (fun K hK => ?_)
              go_simp
              skip
              refine hK.out _ _ (hS9.set HNEB.out) (fun hHeld => ?_)
              clear hK K
              try simp only [Act.put, List.setIfInBounds_toArray, List.set_cons_zero, List.set_cons_succ]
              refine wpAnyH_done (by kernel_rfl) ?_ _
              gi_wp2_with fail
              have hdz : W3.drew.heap.size = W3.heap.size := rfl
              obtain ⟨e1, e2, e3, e4⟩ := collE_end (w := w5) (W3 := w8) (x := ⟨id, y⟩) (M := fun b => b = w2.heap.size + 1) (Nat.le_refl _) hz15 HI.out HBLK.out HOWN.out (H03.out.trans (H8.out.st _)) (fun b e => .inr (.inr e)) (HCR8.out.mono fun b hb => ⟨by have := hb.1; omega, hb.2, fun e => (by have h1 := hb.1; exact e.elim (fun e => by omega) (fun e => by have := (hrow0 b e).2; omega)), fun e => by have := HI.out.nlt b e; have := hb.1; omega⟩) ((Ext.refl w8).alloc (EV.cells ⟨id, y⟩) 56) HO9.out HW9.out HS9.out
              refine ⟨_, ⟨ys ++ [⟨id, y⟩], e1, by rw [List.map_append, List.map_append, HMAPY.out, List.append_assoc]; show _ ++ (_ ++ [(id, y.c)]) = _ ++ (_ ++ [(id, x.c)]); rw [HYC.out], (HSTY.out.then ((H03.out.trans (H8.out.st _))) (fun i hi e => by omega)).then e2 (fun i hi e => (HSUB.out i e).elim (fun e => e) (fun e => by omega)), fun b hb => (e3 b hb).elim (HSUB.out b) fun h => .inr (by omega)⟩, ?_, ?_, e4⟩
              · exact (H8.out.st _).trans e2
              · exact fun b hb => (e3 b hb).imp (fun h => h) fun h => by omega
            · go_simp
              skip
              refine hK.out _ _ (HSA.out _ (H8.out.alloc _ _)) (fun hHeld => ?_)
              clear hK K
              try simp only [Act.put, List.setIfInBounds_toArray, List.set_cons_zero, List.set_cons_succ]
              refine held_call (i := 0) (by kernel_rfl) rfl (by rfl) (fun K hK => ?_)
              go_simp
              skip
              refine hK.out _ _ (hHeld) (fun hHeld => ?_)
              clear hK K
              try simp only [Act.put, List.setIfInBounds_toArray, List.set_cons_zero, List.set_cons_succ]
              refine held_call (i := 8) (by kernel_rfl) rfl (by rfl) (fun K hK => ?_)
              skip
              refine wp_append_x _ (.tmp 49) (.tmp 56) 48 rfl w5.heap.size 56 i0 _ 16 216 Tryz.underlying48 hi hz0 hz1 hz2 rfl (by decide) s9 ys.length (flatV ys) (by rfl) (own_agree (own_agree HOWN3.out (H8.out.agree fun b (hb : b < W3.heap.size) => hb) (fun b hb => (own_row HOWN3.out hb).2)) (((Ext.refl w8).alloc (EV.cells ⟨id, y⟩) 56).agree fun b (hb : b < w8.heap.size) => hb) (fun b hb => (by have := (hrow0 b hb).2; omega))) (fun b => b = w8.heap.size) ⟨some ⟨w8.heap.size, 0, none⟩, 1⟩ 1 (EV.cells ⟨id, y⟩).toList (by rfl) (Rd.block (Blk.new w8 56 (EV.cells ⟨id, y⟩)) (by decide) rfl) (ev_one ⟨id, y⟩) h63 hby (by rw [World.size_alloc]; omega) ?_; intro s3 w9 hown9 hwr9 hs9; have h9 := hwr9.cell0 (o := 0) ((Ext.refl w8).alloc (EV.cells ⟨id, y⟩) 56) hneL lL8; have cL9 : w9.cell? ⟨w1.heap.size, 0, none⟩ = some (.slice s9.a ys.length s9.c) := h9.1.trans cL8; have lL9 := h9.2; have fL9 : w9.frozen? ⟨w1.heap.size, 0, none⟩ = false := (hwr9.fz _ _).trans ((((Ext.refl w8).alloc (EV.cells ⟨id, y⟩) 56).frozen (o := 0) lL8).trans ((H8.out.frozen (o := 0) lL).trans fL)); have hS9 : SameAt [W1'.heap.size, wr.heap.size, w.heap.size + 1, w.heap.size] W3 w9 := (HSA.out _ H8.out).wr hwr9 ((Ext.refl w8).alloc (EV.cells ⟨id, y⟩) 56) HNES.out (HLTS.out _ H8.out); have HO9 := Lib.hid hown9; have HW9 := Lib.hid hwr9; have HS9 := Lib.hid hs9; clear hown9 hwr9 hs9 h9
              refine hK.out _ _ (hS9) (fun hHeld => ?_)
              clear hK K
              try simp only [Act.put, List.setIfInBounds_toArray, List.set_cons_zero, List.set_cons_succ]
              refine held_call (i := 9) (by kernel_rfl) rfl (by rfl) (fun K hK => ?_)
              go_simp
              skip
              refine hK.out _ _ (hS9.set HNEB.out) (fun hHeld => ?_)
              clear hK K
              try simp only [Act.put, List.setIfInBounds_toArray, List.set_cons_zero, List.set_cons_succ]
              refine wpAnyH_done (by kernel_rfl) ?_ _
              gi_wp2_with fail
              have hdz : W3.drew.heap.size = W3.heap.size := rfl
              obtain ⟨e1, e2, e3, e4⟩ := collE_end (w := w5) (W3 := w8) (x := ⟨id, y⟩) (M := fun b => b = w2.heap.size + 1) (Nat.le_refl _) hz15 HI.out HBLK.out HOWN.out (H03.out.trans (H8.out.st _)) (fun b e => .inr (.inr e)) (HCR8.out.mono fun b hb => ⟨by have := hb.1; omega, hb.2, fun e => (by have h1 := hb.1; exact e.elim (fun e => by omega) (fun e => by have := (hrow0 b e).2; omega)), fun e => by have := HI.out.nlt b e; have := hb.1; omega⟩) ((Ext.refl w8).alloc (EV.cells ⟨id, y⟩) 56) HO9.out HW9.out HS9.out
              refine ⟨_, ⟨ys ++ [⟨id, y⟩], e1, by rw [List.map_append, List.map_append, HMAPY.out, List.append_assoc]; show _ ++ (_ ++ [(id, y.c)]) = _ ++ (_ ++ [(id, x.c)]); rw [HYC.out], (HSTY.out.then ((H03.out.trans (H8.out.st _))) (fun i hi e => by omega)).then e2 (fun i hi e => (HSUB.out i e).elim (fun e => e) (fun e => by omega)), fun b hb => (e3 b hb).elim (HSUB.out b) fun h => .inr (by omega)⟩, ?_, ?_, e4⟩
              · exact (H8.out.st _).trans e2
              · exact fun b hb => (e3 b hb).imp (fun h => h) fun h => by omega
        case done =>
          rintro D zs C W5 hD hS ⟨ys, hco, hmapy, hsty, hsub⟩ hDk
          have hmapn : ys.map EV.p = evL (L.take (k + 1)) ch := by
            rw [hmapy, HMAP.out, evL_take HPK.out]
            congr 1
            have hz : zs = siftX iv xs := hS
            have := siftX_map iv xs
            rw [HXS.out] at this
            rw [hz, ← this, List.map_map]; rfl
          have hnew : OutI w5.heap.size w1.heap.size w5 L ch (k + 1) (D :: ds) W5 := by
            refine ⟨⟨_, C, ys, hco, hmapn, fun d hd => ?_⟩, List.nodup_cons.2 ⟨fun hd => ?_, HND.out⟩, hk⟩
            · rcases List.mem_cons.1 hd with rfl | hd
              · exact ⟨.inr (.inl hD), hDk⟩
              · obtain ⟨h1, h2⟩ := HDS.out d hd
                have h3 := HCO.out.nlt d h1
                exact ⟨.inl h1, (hsty.block d (by omega) (fun e => HCO.out.dis d e h1)).trans ((HX26.out.heap h3).trans h2)⟩
            · have := HCO.out.nlt D (HDS.out D hd).1; omega
          have HNEW := Lib.hid hnew
          clear hco hmapy hsty hsub hDk hmapn hnew hS
          gi_wp2_with fail
          refine Handed.intro (L.length - (k + 1)) (by omega) (hJ _ _ _ ?_)
          refine ⟨k + 1, D :: ds, ?_⟩
          iterate 13 apply Exists.intro
          refine ⟨rfl, HNEW, hk, ?_⟩
          rw [show ((k + 1 : Nat) : Int) = (k : Int) + 1 from by omega]
          rfl
      · obtain rfl : k = L.length := by omega
        obtain ⟨⟨N, C0, evs, hco, hmap, hds⟩, hnd, -⟩ := HO.out
        have hkk : ¬ (L.length : Int) < (L.length : Int) := by omega
        obtain ⟨s9, rfl, hblk, hown⟩ := hco.ex
        have cL : wr.cell? ⟨w1.heap.size, 0, none⟩ = some (.slice s9.a evs.length s9.c) := hblk.cell 0
        have lL := hblk.lt
        have HCO := Lib.hid hco
        have HMAP := Lib.hid hmap
        have HDS := Lib.hid hds
        have HND := Lib.hid hnd
        have HOWN := Lib.hid hown
        clear hco hmap hds hnd hblk hown HO
        gi_wp2_with fail
        refine leaves_all ds wr HND.out (fun d hd => (HDS.out d hd).2) (fun W' hW' => ?_)
        have hdl : ∀ d, d ∈ ds → w5.heap.size ≤ d := fun d hd => HCO.out.nlo d (HDS.out d hd).1
        have hstw : St (fun b => b = R) w wr := (HST0.out.ext HX5.out).then HCO.out.st fun i hi e => by omega
        have hzw := hstw.size
        have hz5r := HCO.out.st.size
        have hrowE : ∀ b, s9.row = some b → w5.heap.size ≤ b ∧ b < wr.heap.size := fun b hb => own_row HOWN.out hb
        refine ⟨.slice s9.a evs.length s9.c, by simp [results, Tryz.f18, go_sem], s9, evs, rfl, ?_, ?_, ?_, ?_⟩
        · rw [HCE.out, HMAP.out, List.take_of_length_le (Nat.le_refl _)]
        · refine (HREG5.out.sb HCO.out.st.sb fun b hb e => ?_).sb hW'.sb fun b hb hd => ?_
          · have := HRB.out b hb; omega
          · have := HRB.out b hb; have := hdl b hd; omega
        · exact hstw.then hW' fun i hi hd => by have := hdl i hd; omega
        · have hag : Agree (fun b => b < wr.heap.size ∧ ¬ N b) wr W' := fun b hb => hW'.block b hb.1 fun hd => hb.2 (HDS.out b hd).1
          have hzW := hW'.size
          refine ⟨?_, fun x hx => ?_, ?_⟩
          · have ho := own_agree HOWN.out hag fun b hb => ⟨(hrowE b hb).2, fun hN => HCO.out.dis b (.inr hb) hN⟩
            exact (Rd.of_own ho).mono fun b hb => ⟨by have := hb.1; omega, hb.2⟩
          · exact ((HCO.out.vals x hx).agree (hag.mono fun b hb => ⟨hb.2.1, hb.2.2.2⟩)).mono fun b hb => ⟨by have := hb.1; omega, by have := hb.2.1; omega⟩
          · have h1 := congrArg List.length HMAP.out
            have h2 := evL_len ch (L.take L.length)
            rw [List.length_map] at h1
            rw [List.length_take] at h2
            have h3 : min L.length L.length * ch.length ≤ 100 * 1000000 := Nat.mul_le_mul (by omega) hcl
            omega
end Go.Proofs.YtohajcflklejjaaGreat
namespace Go.Proofs.YtohajcflklejjaaGreat
open Go.RowKit Go.Shelf Go.Maps
set_option linter.unusedVariables false
set_option linter.unusedSimpArgs false
abbrev numZ (n : Int) : Val := .mk 3 false n ByteArray.empty [] [] []
abbrev kA1 : ByteArray := ⟨#[97, 47, 49]⟩
abbrev kB : ByteArray := ⟨#[98]⟩
theorem rv_numZ (w : World) (F : Nat → Prop) {n : Int} (wn : (Lit.int .i64 n).wf = true) : RV w F (numZ n) Sl.none Sl.none := RV.flat _ _ _ _ _ _ (by decide) wn (by decide)
theorem num27_any (w : World) (k : ByteArray) (n : Int) : Calls Tryz.prog 26 #[.string k, .int .i64 n] w fun e w' => e = .returned (.agg #[.string k, .int .i64 3, .bool false, .int .i64 n, .string ByteArray.empty, .slice none 0 0, .slice none 0 0]) ∧ Ext w w' := by
  go_enter Tryz.func26, Tryz.ntmps26
  go_wp2_with fail
  refine bodyPost_ret (v := .agg #[.string k, .int .i64 3, .bool false, .int .i64 n, .string ByteArray.empty, .slice none 0 0, .slice none 0 0]) (by simp [results, Tryz.results26, go_sem]; rfl) rfl ?_
  exact ⟨rfl, (Ext.refl w).alloc _ _⟩
theorem es_twoZ {w : World} {g : Nat} {x y : LE} (hb : Blk w g 47 (x.cells ++ y.cells).toArray) (hx : RV w (Lt w.heap.size) x.v x.sl x.so) (hy : RV w (Lt w.heap.size) y.v y.sl y.so) (kx : x.k.size ≤ maxLen) (ky : y.k.size ≤ maxLen) : ES w (Lt w.heap.size) ⟨some ⟨g, 0, none⟩, 2⟩ [x, y] :=
  ⟨(Rd.block (cs := flatE [x, y]) (n := 2) (size := 7) (by simpa [flatE] using hb) (by decide) (by simp [flatE, LE.cells])).mono fun i hi => by subst hi; exact hb.lt, fun z hz => by
    rcases List.mem_cons.1 hz with rfl | hz
    · exact ⟨hx, kx⟩
    · obtain rfl := List.mem_singleton.1 hz; exact ⟨hy, ky⟩, by simp⟩
theorem es_oneZ {w : World} {g : Nat} {x : LE} (hb : Blk w g 47 x.cells.toArray) (hx : RV w (Lt w.heap.size) x.v x.sl x.so) (kx : x.k.size ≤ maxLen) : ES w (Lt w.heap.size) ⟨some ⟨g, 0, none⟩, 1⟩ [x] :=
  ⟨(Rd.block (cs := flatE [x]) (n := 1) (size := 7) (by simpa [flatE] using hb) (by decide) (by simp [flatE, LE.cells])).mono fun i hi => by subst hi; exact hb.lt, fun z hz => by
    obtain rfl := List.mem_singleton.1 hz; exact ⟨hx, kx⟩, by simp⟩
def TreeP (l : List Ent) (w : World) (e : Ending) (w' : World) : Prop := ∃ (T : RT) (p : Option Addr), e = .returned (.agg #[.pointer p]) ∧ rootV T = .pointer p ∧ OkR T ∧ entsT T = l ∧ IsT w' (In w.heap.size w'.heap.size) T ∧ Ext w w'
theorem tree_two {w : World} {g : Nat} {a b : ByteArray} {m n : Int} (hab : klt a b = true) (ha : a.size ≤ maxLen) (hb' : b.size ≤ maxLen) (wm : (Lit.int .i64 m).wf = true) (wn : (Lit.int .i64 n).wf = true)
    (hb : Blk w g 47 #[.string a, .int .i64 3, .bool false, .int .i64 m, .string ByteArray.empty, .slice none 0 0, .slice none 0 0, .string b, .int .i64 3, .bool false, .int .i64 n, .string ByteArray.empty, .slice none 0 0, .slice none 0 0]) :
    Calls Tryz.prog 17 #[.slice (some ⟨g, 0, none⟩) 2 2] w (TreeP [(a, numZ m), (b, numZ n)] w) := by
  have h := build_any (es_twoZ (x := ⟨a, numZ m, Sl.none, Sl.none⟩) (y := ⟨b, numZ n, Sl.none, Sl.none⟩) hb (rv_numZ _ _ wm) (rv_numZ _ _ wn) ha hb') (show 2 ≤ 100000 by omega)
  refine h.mono ?_
  rintro e w' ⟨T, rfl, hbt, hT, hx⟩
  obtain ⟨p, hp⟩ := rootV_ptr T
  refine ⟨T, p, by rw [treeV, hp], hp, hbt.both.1, ?_, hT, hx⟩
  rw [hbt.both.2]
  show putAll [] [(a, numZ m), (b, numZ n)] = _
  simp [putAll, insE, hab]
theorem tree_one {w : World} {g : Nat} {a : ByteArray} {v : Val} {sl so : Sl} (ha : a.size ≤ maxLen) (hv : RV w (Lt w.heap.size) v sl so)
    (hb : Blk w g 47 (LE.cells ⟨a, v, sl, so⟩).toArray) :
    Calls Tryz.prog 17 #[.slice (some ⟨g, 0, none⟩) 1 1] w (TreeP [(a, v)] w) := by
  have h := build_any (es_oneZ (x := ⟨a, v, sl, so⟩) hb hv ha) (show 1 ≤ 100000 by omega)
  refine h.mono ?_
  rintro e w' ⟨T, rfl, hbt, hT, hx⟩
  obtain ⟨p, hp⟩ := rootV_ptr T
  refine ⟨T, p, by rw [treeV, hp], hp, hbt.both.1, ?_, hT, hx⟩
  rw [hbt.both.2]
  show putAll [] [(a, v)] = _
  simp [putAll, insE]
abbrev q1 : Qy := ⟨1, ⟨#[97, 47]⟩, ⟨#[]⟩, false⟩
abbrev q2 : Qy := ⟨2, ⟨#[97]⟩, ⟨#[98]⟩, false⟩
theorem may1 : mayQ q1 = 0 := by
  have h : (ByteArray.mk #[]).toList = [] := by rw [ByteArray.toList_eq]
  simp [mayQ, h]
theorem may2 : mayQ q2 = 0 := by simp [mayQ]
theorem in1a : inQ q1 kA1 = true := by
  rw [inQ, if_pos may1, if_pos rfl]
  show (ByteArray.toList _).isPrefixOf (ByteArray.toList _) = true
  rw [ByteArray.toList_eq, ByteArray.toList_eq]; decide
theorem in1b : inQ q1 kB = false := by
  rw [inQ, if_pos may1, if_pos rfl]
  show (ByteArray.toList _).isPrefixOf (ByteArray.toList _) = false
  rw [ByteArray.toList_eq, ByteArray.toList_eq]; decide
theorem in2a : inQ q2 kA1 = true := by
  rw [inQ, if_pos may2, if_neg (by decide)]
  show (!(Op.bytesLess (ByteArray.toList _) (ByteArray.toList _)) && (false || Op.bytesLess (ByteArray.toList _) (ByteArray.toList _))) = true
  simp only [ByteArray.toList_eq]; decide
theorem in2b : inQ q2 kB = false := by
  rw [inQ, if_pos may2, if_neg (by decide)]
  show (!(Op.bytesLess (ByteArray.toList _) (ByteArray.toList _)) && (false || Op.bytesLess (ByteArray.toList _) (ByteArray.toList _))) = false
  simp only [ByteArray.toList_eq]; decide
theorem klt_ab : klt kA1 kB = true := by
  show Op.bytesLess (ByteArray.toList _) (ByteArray.toList _) = true
  simp only [ByteArray.toList_eq]; decide
theorem chg_first : chg [] [(kA1, numZ 5), (kB, numZ 6)] = [⟨kA1, false, zeroV, true, numZ 5⟩, ⟨kB, false, zeroV, true, numZ 6⟩] := by rw [nil_chg]; rfl
theorem chg_second : chg [(kA1, numZ 5), (kB, numZ 6)] [(kB, numZ 7)] = [⟨kA1, true, numZ 5, false, zeroV⟩, ⟨kB, true, numZ 6, true, numZ 7⟩] := by
  rw [chg, if_pos klt_ab, chg_both (e := (kB, numZ 6)) (f := (kB, numZ 7)) rfl, nil_chg]
  rw [becC, if_neg (show ¬ cmpV (numZ 6) (numZ 7) = 0 by simp [cmpV, numI, Val.kind, Val.i])]
  rfl
theorem evL_two {s1 s2 : Iv} (h1 : IvOf q1 s1) (h2 : IvOf q2 s2) {c d : Chg} (hc : c.k = kA1) (hd : d.k = kB) : evL [(1, s1), (2, s2)] [c, d] = [(1, c), (2, c)] := by
  have a1 := h1.has may1 c.k
  have a2 := h2.has may2 c.k
  have b1 := h1.has may1 d.k
  have b2 := h2.has may2 d.k
  rw [hc, in1a] at a1
  rw [hc, in2a] at a2
  rw [hd, in1b] at b1
  rw [hd, in2b] at b2
  rw [← hc] at a1 a2
  rw [← hd] at b1 b2
  simp only [evL, List.flatMap_cons, List.flatMap_nil, List.filter_cons, List.filter_nil, a1, a2, b1, b2, if_true, Bool.false_eq_true, if_false, List.map_cons, List.map_nil, List.cons_append, List.nil_append]
theorem add_may {w : World} {R : Nat} {T : RT} {g : Nat} {mb : Option Nat} {L : Subs} (h : RegAt w R T g mb L) (hg : g ≤ 1000000) (q : Qy) (hq : q.short) (hm : mayQ q = 0) :
    Calls Tryz.prog 16 #[.pointer (some ⟨R, 0, none⟩), q.v] w fun e w' => ∃ s mb', e = .returned (.tuple #[.int .u64 ((g + 1 : Nat) : Int), .int .i64 0]) ∧ IvOf q s ∧ RegAt w' R T (g + 1) mb' (L ++ [(g + 1, s)]) ∧ (mb' = mb ∨ ∃ b, mb' = some b ∧ w.heap.size ≤ b) ∧ Sb (RegB R mb) w w' :=
  (add27_any h hg q hq).mono fun e w' he => by
    rcases he with ⟨h1, -⟩ | ⟨-, s, mb', he⟩
    · exact absurd hm h1
    · exact ⟨s, mb', he⟩
theorem live12 {R : Nat} {U : RT} {g : Nat} {mb : Option Nat} {L : Subs} (hn : L.length ≤ 12) : ∀ W, RegAt W R U g mb L → 0 < L.length → Calls Tryz.prog 23 #[.pointer (some ⟨R, 0, none⟩)] W (LivePost L W) := fun W h h0 => live27_any h h0 hn
theorem evs_two {w : World} {g : Nat} {x y : EV} (hb : Blk w g 56 (x.cells.toList ++ y.cells.toList).toArray) (hx : CR w (Lt w.heap.size) x.x) (hy : CR w (Lt w.heap.size) y.x) : EVS w (Lt w.heap.size) ⟨some ⟨g, 0, none⟩, 2⟩ [x, y] :=
  ⟨(Rd.block (cs := flatV [x, y]) (n := 2) (size := 16) (by simpa [flatV] using hb) (by decide) (by simp [flatV])).mono fun i hi => by subst hi; exact hb.lt, fun u hu => by
    rcases List.mem_cons.1 hu with rfl | hu
    · exact hx
    · obtain rfl := List.mem_singleton.1 hu; exact hy, by simp⟩
def wantE (id : Nat) : Bool → EV
  | true => ⟨id, ⟨⟨kA1, false, zeroV, true, numZ 5⟩, Sl.none, Sl.none, Sl.none, Sl.none⟩⟩
  | false => ⟨id, ⟨⟨kA1, true, numZ 5, false, zeroV⟩, Sl.none, Sl.none, Sl.none, Sl.none⟩⟩
theorem wantE_cr (w : World) (F : Nat → Prop) (id : Nat) (b : Bool) : CR w F (wantE id b).x := by
  cases b
  · exact ⟨rv_numZ _ _ (by decide), rv_zero _ _, show kA1.size ≤ maxLen by decide⟩
  · exact ⟨rv_zero _ _, rv_numZ _ _ (by decide), show kA1.size ≤ maxLen by decide⟩
theorem EVS.ext27 {w w' : World} {s : Sl} {xs : List EV} (h : EVS w (Lt w.heap.size) s xs) (k : Ext w w') : EVS w' (Lt w'.heap.size) s xs := (h.agree (k.agree fun _ h => h)).mono fun _ hi => Nat.lt_of_lt_of_le hi k.size
theorem regB_old {W : World} {R : Nat} {T : RT} {g : Nat} {mb : Option Nat} {L : Subs} (h : RegAt W R T g mb L) : ∀ b, RegB R mb b → b < W.heap.size := fun b hb => by
  rcases hb with rfl | rfl
  · exact h.blk.lt
  · exact h.map.lt
set_option maxRecDepth 100000 in
set_option maxHeartbeats 8000000 in
theorem known27 (w : World) : Calls Tryz.prog 15 #[] w fun e w' => e = .returned (.bool true) ∧ Below w.heap.size w w' := by
  go_enter Tryz.func15, Tryz.ntmps15
  go_wp2_with fail
  generalize hW0 : World.alloc w _ = w0
  have hreg0 : RegAt w0 w.heap.size none 0 none [] := by rw [← hW0]; exact RegAt.new (Blk.new _ _ _)
  have hb0 : Below w.heap.size w w0 := by rw [← hW0]; exact ((Ext.refl w).alloc _ _).below
  clear hW0
  refine (add_may hreg0 (by omega) q1 ⟨by decide, by decide⟩ may1).mono ?_
  rintro e w1 ⟨s1, mb1, rfl, hiv1, hreg1, hmb1, hsb1⟩
  have hr1 : ∀ b, RegB w.heap.size mb1 b → w.heap.size ≤ b := fun b hb => by
    rcases hb with rfl | hb
    · exact Nat.le_refl _
    · rcases hmb1 with h | ⟨c, h, hc⟩
      · rw [h] at hb; cases hb
      · rw [h] at hb; injection hb with hb; have := hb0.size; omega
  have HB1 := Lib.hid (Sb.step hb0 hsb1 fun b hb => by
    rcases hb with rfl | hb
    · exact Nat.le_refl _
    · cases hb)
  have HIV1 := Lib.hid hiv1
  have HR1 := Lib.hid hr1
  clear hb0 hreg0 hiv1 hmb1 hsb1 hr1
  go_wp2_with fail
  refine (add_may hreg1 (by omega) q2 ⟨by decide, by decide⟩ may2).mono ?_
  rintro e w2 ⟨s2, mb2, rfl, hiv2, hreg2, hmb2, hsb2⟩
  have hz1 := HB1.out.size
  have hr2 : ∀ b, RegB w.heap.size mb2 b → w.heap.size ≤ b := fun b hb => by
    rcases hb with rfl | hb
    · exact Nat.le_refl _
    · rcases hmb2 with h | ⟨c, h, hc⟩
      · exact HR1.out b (.inr (by rw [← h]; exact hb))
      · rw [h] at hb; injection hb with hb; omega
  have HB2 := Lib.hid (Sb.step HB1.out hsb2 HR1.out)
  have HIV2 := Lib.hid hiv2
  have HR2 := Lib.hid hr2
  have HREG2 := Lib.hid hreg2
  clear hreg1 hiv2 hmb2 hsb2 hr2 hreg2 hz1
  go_wp2_with fail
  refine (num27_any _ _ _).mono ?_
  rintro e w3 ⟨rfl, hx3⟩
  have HX3 := Lib.hid hx3
  clear hx3
  go_wp2_with fail
  refine (num27_any _ _ _).mono ?_
  rintro e w4 ⟨rfl, hx4⟩
  have HX4 := Lib.hid (HX3.out.trans hx4)
  clear hx4
  go_wp2_with fail
  refine (tree_two (a := kA1) (b := kB) (m := 5) (n := 6) klt_ab (by decide) (by decide) (by decide) (by decide) (Blk.new w4 _ _)).mono ?_
  rintro e w5 ⟨U, p, rfl, hp, ok, he, hU, hx5⟩
  have hx25 := HX4.out.trans (((Ext.refl w4).alloc _ _).trans hx5)
  have hz25 := hx25.size
  have hz24 := HX4.out.size
  have hU' : IsT w5 (In w2.heap.size w5.heap.size) U := hU.mono fun b hb => ⟨by have := hb.1; rw [World.size_alloc] at this; omega, hb.2⟩
  have haf := after27_any (HREG2.out.ext hx25) (T := none) (F := fun _ => False) (U := U) trivial hU' (fun b hb => hb.elim) (fun b hb => ⟨hb.2, fun h => by have := regB_old HREG2.out b h; have := hb.1; omega⟩) trivial ok (by simp [entsT]) (by rw [he]; simp) (by simp) (live12 (by simp))
  rw [treeV, hp, he] at haf
  rw [show chg (entsT none) _ = _ from chg_first] at haf
  have HX25 := Lib.hid hx25
  have HAF := Lib.hid haf
  have HP := Lib.hid hp
  have HOK := Lib.hid ok
  have HE := Lib.hid he
  have HU := Lib.hid hU'
  clear hp ok he hU hx5 hx25 hU' haf
  go_wp2_with fail
  refine HAF.out.mono ?_
  rintro e w6 ⟨sl1, evs1, rfl, hmap1, hreg6, hst6, hevs1⟩
  have hm1 : evs1.map EV.p = [wantE 1 true, wantE 2 true].map EV.p := by rw [hmap1]; exact evL_two HIV1.out HIV2.out rfl rfl
  have hB5 : Below w.heap.size w w5 := Sb.step HB2.out (HX25.out.sb fun _ => False) fun b hb => hb.elim
  have HB6 := Lib.hid (Sb.step hB5 hst6.sb fun b hb => by rw [hb]; exact Nat.le_refl _)
  have hU6 : IsT w6 (In w2.heap.size w5.heap.size) U := HU.out.agree (hst6.agree.mono fun b hb => ⟨hb.2, fun e => by have := regB_old HREG2.out b (.inl e); have := hb.1; omega⟩)
  have HM1 := Lib.hid hm1
  have HREG6 := Lib.hid hreg6
  have HEV1 := Lib.hid hevs1
  have HU6 := Lib.hid hU6
  have hz56 := hst6.size
  have hz25 := HX25.out.size
  clear hmap1 hreg6 hst6 hevs1 hm1 hB5 hU6
  go_wp2_with fail
  refine (num27_any _ _ _).mono ?_
  rintro e w7 ⟨rfl, hx7⟩
  have HX7 := Lib.hid hx7
  clear hx7
  go_wp2_with fail
  refine (tree_one (a := kB) (v := numZ 7) (sl := Sl.none) (so := Sl.none) (by decide) (rv_numZ _ _ (by decide)) (Blk.new w7 _ _)).mono ?_
  rintro e w8 ⟨V, q, rfl, hq, okV, heV, hV, hx8⟩
  have hx68 := HX7.out.trans (((Ext.refl w7).alloc _ _).trans hx8)
  have hz67 := HX7.out.size
  have hz68 := hx68.size
  have hV' : IsT w8 (In w6.heap.size w8.heap.size) V := hV.mono fun b hb => ⟨by have := hb.1; rw [World.size_alloc] at this; omega, hb.2⟩
  have haf := after27_any (HREG6.out.ext hx68) (T := U) (F := In w2.heap.size w5.heap.size) (U := V) (HU6.out.agree (hx68.agree fun b hb => by have := hb.2; omega)) hV' (fun b hb => ⟨by have := hb.2; omega, fun h => by have := regB_old HREG2.out b h; have := hb.1; omega⟩) (fun b hb => ⟨hb.2, fun h => by have := regB_old HREG2.out b h; have := hb.1; omega⟩) HOK.out okV (by rw [HE.out]; simp) (by rw [heV]; simp) (by simp) (live12 (by simp))
  rw [treeV, hq, heV, HE.out, chg_second] at haf
  have HX68 := Lib.hid hx68
  have HAF2 := Lib.hid haf
  clear hq okV heV hV hx8 hx68 hV' haf HAF
  go_wp2_with fail
  refine HAF2.out.mono ?_
  rintro e w9 ⟨sl2, evs2, rfl, hmap2, hreg9, hst9, hevs2⟩
  have hm2 : evs2.map EV.p = [wantE 1 false, wantE 2 false].map EV.p := by rw [hmap2]; exact evL_two HIV1.out HIV2.out rfl rfl
  have hB8 : Below w.heap.size w w8 := Sb.step HB6.out (HX68.out.sb fun _ => False) fun b hb => hb.elim
  have HB9 := Lib.hid (Sb.step hB8 hst9.sb fun b hb => by rw [hb]; exact Nat.le_refl _)
  have hz89 := hst9.size
  have hz26 : w2.heap.size ≤ w6.heap.size := by omega
  have hev19 : EVS w9 (Lt w9.heap.size) sl1 evs1 := ((HEV1.out.agree (HX68.out.agree fun b hb => hb.2)).agree (hst9.agree.mono fun b hb => ⟨by have := hb.2; omega, fun e => by have := regB_old HREG2.out b (.inl e); have := hb.1; omega⟩)).mono fun b hb => by have := hb.2; show b < _; omega
  have HM2 := Lib.hid hm2
  have HEV19 := Lib.hid hev19
  have HEV2 := Lib.hid (hevs2.mono (G := Lt w9.heap.size) fun b hb => hb.2)
  clear hmap2 hreg9 hst9 hevs2 hm2 hB8 hev19 HAF2 HU6 HU HREG6 HREG2
  go_wp2_with fail
  generalize hW10 : World.alloc w9 _ = w10
  have hx10 : Ext w9 w10 := by rw [← hW10]; exact (Ext.refl _).alloc _ _
  have hb10 : Blk w10 w9.heap.size 44 #[.int .i64 3, .bool false, .int .i64 5, .string ByteArray.empty, .slice none 0 0, .slice none 0 0] := by rw [← hW10]; exact Blk.new w9 _ _
  have HV := Lib.hid (show ∀ W, Ext w10 W → W.cell? ⟨w9.heap.size, 0, none⟩ = some (.int .i64 3) ∧ W.cell? ⟨w9.heap.size, 1, none⟩ = some (.bool false) ∧ W.cell? ⟨w9.heap.size, 2, none⟩ = some (.int .i64 5) ∧ W.cell? ⟨w9.heap.size, 3, none⟩ = some (.string ByteArray.empty) ∧ W.cell? ⟨w9.heap.size, 4, none⟩ = some (.slice none 0 0) ∧ W.cell? ⟨w9.heap.size, 5, none⟩ = some (.slice none 0 0) from
    fun W hW => ⟨(hb10.ext hW).cell 0, (hb10.ext hW).cell 1, (hb10.ext hW).cell 2, (hb10.ext hW).cell 3, (hb10.ext hW).cell 4, (hb10.ext hW).cell 5⟩)
  have HX10 := Lib.hid hx10
  clear hW10 hx10 hb10
  refine wp_meet2 (fun w' b6 b7 => Ext w10 w' ∧ Blk w' b6 54 #[.string kA1, .bool false, .int .i64 0, .bool false, .int .i64 0, .string ByteArray.empty, .slice none 0 0, .slice none 0 0, .bool true, .int .i64 3, .bool false, .int .i64 5, .string ByteArray.empty, .slice none 0 0, .slice none 0 0] ∧ Blk w' b7 54 #[.string kA1, .bool true, .int .i64 3, .bool false, .int .i64 5, .string ByteArray.empty, .slice none 0 0, .slice none 0 0, .bool false, .int .i64 0, .bool false, .int .i64 0, .string ByteArray.empty, .slice none 0 0, .slice none 0 0]) [31, 32, 33, 34] 9 10 ?_ ?_
  · skip
    refine wp_region_held_drew (S := (fun w' => Ext w10 w')) (by kernel_rfl) (((Ext.refl w10).drew)) (fun hHeld => ?_)
    refine held_on (i := 0) (d := (some 31)) (v := ?_) rfl rfl (by kernel_rfl) (by kernel_rfl) (by kernel_rfl) (fun _ _ _ h => h) (by rfl) hHeld ?_ ?_
    rotate_left
    focus (intro w hSw; have hSc := HV.out w hSw; clear hSw; go_simp; first | done | with_reducible rfl)
    try simp only [Act.put, List.setIfInBounds_toArray, List.set_cons_zero, List.set_cons_succ]
    refine held_on (i := 1) (d := (some 32)) (v := ?_) rfl rfl (by kernel_rfl) (by kernel_rfl) (by kernel_rfl) (fun _ _ _ h => h) (by rfl) hHeld ?_ ?_
    rotate_left
    focus (intro w hSw; (try dsimp only at hSw); go_simp; first | done | with_reducible rfl)
    try simp only [Act.put, List.setIfInBounds_toArray, List.set_cons_zero, List.set_cons_succ]
    refine held_on (i := 2) (d := (some 33)) (v := ?_) rfl rfl (by kernel_rfl) (by kernel_rfl) (by kernel_rfl) (fun _ _ _ h => h) (by rfl) hHeld ?_ ?_
    rotate_left
    focus (intro w hSw; have hSc := HV.out w hSw; clear hSw; go_simp; first | done | with_reducible rfl)
    try simp only [Act.put, List.setIfInBounds_toArray, List.set_cons_zero, List.set_cons_succ]
    refine held_on (i := 3) (d := (some 34)) (v := ?_) rfl rfl (by kernel_rfl) (by kernel_rfl) (by kernel_rfl) (fun _ _ _ h => h) (by rfl) hHeld ?_ ?_
    rotate_left
    focus (intro w hSw; (try dsimp only at hSw); go_simp; first | done | with_reducible rfl)
    try simp only [Act.put, List.setIfInBounds_toArray, List.set_cons_zero, List.set_cons_succ]
    refine held_two (i := 4) (j := 5) (by kernel_rfl) rfl rfl (by rfl) (by rfl) (fun K hK => ?_) (fun K hK => ?_)
    · go_simp
      skip
      refine hK.out _ _ ((by first|exact (((Ext.refl _).drew).alloc _ _).alloc _ _|exact ((Ext.refl _).drew).alloc _ _)) (fun hHeld => ?_)
      clear hK K
      try simp only [Act.put, List.setIfInBounds_toArray, List.set_cons_zero, List.set_cons_succ]
      refine held_call (i := 5) (by kernel_rfl) rfl (by rfl) (fun K hK => ?_)
      go_simp
      skip
      refine hK.out _ _ ((by first|exact (((Ext.refl _).drew).alloc _ _).alloc _ _|exact ((Ext.refl _).drew).alloc _ _)) (fun hHeld => ?_)
      clear hK K
      try simp only [Act.put, List.setIfInBounds_toArray, List.set_cons_zero, List.set_cons_succ]
      refine held_call (i := 6) (by kernel_rfl) rfl (by rfl) (fun K hK => ?_)
      go_simp
      skip
      refine hK.out _ _ ((by first|exact (((Ext.refl _).drew).alloc _ _).alloc _ _|exact ((Ext.refl _).drew).alloc _ _)) (fun hHeld => ?_)
      clear hK K
      try simp only [Act.put, List.setIfInBounds_toArray, List.set_cons_zero, List.set_cons_succ]
      refine held_call (i := 7) (by kernel_rfl) rfl (by rfl) (fun K hK => ?_)
      go_simp
      skip
      refine hK.out _ _ ((by first|exact (((Ext.refl _).drew).alloc _ _).alloc _ _|exact ((Ext.refl _).drew).alloc _ _)) (fun hHeld => ?_)
      clear hK K
      try simp only [Act.put, List.setIfInBounds_toArray, List.set_cons_zero, List.set_cons_succ]
      refine wpAnyH_done (by kernel_rfl) ?_ _
      refine onlyM_mk ⟨w10.heap.size, w10.heap.size + 1, ⟨by first|exact (((Ext.refl _).drew).alloc _ _).alloc _ _|exact ((Ext.refl _).drew).alloc _ _, (Blk.new w10.drew _ _).ext ((Ext.refl _).alloc _ _), blk_two w10.drew _ _ _ _⟩, by kernel_rfl, ?_⟩
      simp only [putT, List.map_cons, List.map_nil, List.cons_append, List.nil_append, List.setIfInBounds_toArray, List.set_cons_zero, List.set_cons_succ]
      kernel_rfl
    · go_simp
      skip
      refine hK.out _ _ ((by first|exact (((Ext.refl _).drew).alloc _ _).alloc _ _|exact ((Ext.refl _).drew).alloc _ _)) (fun hHeld => ?_)
      clear hK K
      try simp only [Act.put, List.setIfInBounds_toArray, List.set_cons_zero, List.set_cons_succ]
      refine held_call (i := 4) (by kernel_rfl) rfl (by rfl) (fun K hK => ?_)
      go_simp
      skip
      refine hK.out _ _ ((by first|exact (((Ext.refl _).drew).alloc _ _).alloc _ _|exact ((Ext.refl _).drew).alloc _ _)) (fun hHeld => ?_)
      clear hK K
      try simp only [Act.put, List.setIfInBounds_toArray, List.set_cons_zero, List.set_cons_succ]
      refine held_call (i := 6) (by kernel_rfl) rfl (by rfl) (fun K hK => ?_)
      go_simp
      skip
      refine hK.out _ _ ((by first|exact (((Ext.refl _).drew).alloc _ _).alloc _ _|exact ((Ext.refl _).drew).alloc _ _)) (fun hHeld => ?_)
      clear hK K
      try simp only [Act.put, List.setIfInBounds_toArray, List.set_cons_zero, List.set_cons_succ]
      refine held_call (i := 7) (by kernel_rfl) rfl (by rfl) (fun K hK => ?_)
      go_simp
      skip
      refine hK.out _ _ ((by first|exact (((Ext.refl _).drew).alloc _ _).alloc _ _|exact ((Ext.refl _).drew).alloc _ _)) (fun hHeld => ?_)
      clear hK K
      try simp only [Act.put, List.setIfInBounds_toArray, List.set_cons_zero, List.set_cons_succ]
      refine wpAnyH_done (by kernel_rfl) ?_ _
      refine onlyM_mk ⟨w10.heap.size + 1, w10.heap.size, ⟨by first|exact (((Ext.refl _).drew).alloc _ _).alloc _ _|exact ((Ext.refl _).drew).alloc _ _, blk_two w10.drew _ _ _ _, (Blk.new w10.drew _ _).ext ((Ext.refl _).alloc _ _)⟩, by kernel_rfl, ?_⟩
      simp only [putT, List.map_cons, List.map_nil, List.cons_append, List.nil_append, List.setIfInBounds_toArray, List.set_cons_zero, List.set_cons_succ]
      kernel_rfl
  · rintro w11 b6 b7 uu ⟨hx11, hb6, hb7⟩
    simp only [putT, List.map_cons, List.map_nil, List.cons_append, List.nil_append, List.setIfInBounds_toArray, List.set_cons_zero, List.set_cons_succ]
    obtain ⟨r0, r1, r2, r3, r4, r5, r6, r7, r8, r9, r10, r11, r12, r13, r14⟩ := hb6.c15
    have l6 := hb6.lt
    have HX11 := Lib.hid (HX10.out.trans hx11)
    have HB7 := Lib.hid hb7
    clear hx11 hb6 hb7 HV
    go_wp2_with fail
    generalize hW12 : World.alloc w11 _ = w12
    have hx12 : Ext w11 w12 := by rw [← hW12]; exact (Ext.refl _).alloc _ _
    have hb12 : Blk w12 w11.heap.size 56 ((wantE 1 true).cells.toList ++ (wantE 2 true).cells.toList).toArray := by rw [← hW12]; exact Blk.new w11 _ _
    have hsm := refSame27_any (w := w12) (s := sl1) (s' := ⟨some ⟨w11.heap.size, 0, none⟩, 2⟩) (xs := evs1) (ys := [wantE 1 true, wantE 2 true]) (HEV19.out.ext27 (HX11.out.trans hx12)) (evs_two hb12 (wantE_cr _ _ _ _) (wantE_cr _ _ _ _)) HM1.out
    have HX12 := Lib.hid (HX11.out.trans hx12)
    have HB12 := Lib.hid (HB7.out.ext hx12)
    clear hW12 hx12 hb12 r0 r1 r2 r3 r4 r5 r6 r7 r8 r9 r10 r11 r12 r13 r14
    refine hsm.mono ?_
    rintro e w13 ⟨rfl, hx13⟩
    obtain ⟨r0, r1, r2, r3, r4, r5, r6, r7, r8, r9, r10, r11, r12, r13, r14⟩ := (HB12.out.ext hx13).c15
    have l7 := (HB12.out.ext hx13).lt
    have HX13 := Lib.hid (HX12.out.trans hx13)
    clear hx13 hsm
    go_wp2_with fail
    generalize hW14 : World.alloc w13 _ = w14
    have hx14 : Ext w13 w14 := by rw [← hW14]; exact (Ext.refl _).alloc _ _
    have hb14 : Blk w14 w13.heap.size 56 ((wantE 1 false).cells.toList ++ (wantE 2 false).cells.toList).toArray := by rw [← hW14]; exact Blk.new w13 _ _
    have hsm := refSame27_any (w := w14) (s := sl2) (s' := ⟨some ⟨w13.heap.size, 0, none⟩, 2⟩) (xs := evs2) (ys := [wantE 1 false, wantE 2 false]) (HEV2.out.ext27 (HX13.out.trans hx14)) (evs_two hb14 (wantE_cr _ _ _ _) (wantE_cr _ _ _ _)) HM2.out
    have HX14 := Lib.hid (HX13.out.trans hx14)
    clear hW14 hx14 hb14 r0 r1 r2 r3 r4 r5 r6 r7 r8 r9 r10 r11 r12 r13 r14
    refine hsm.mono ?_
    rintro e w15 ⟨rfl, hx15⟩
    have HX15 := Lib.hid (HX14.out.trans hx15)
    clear hx15 hsm
    go_wp2_with fail
    go_ret
    exact ⟨rfl, Sb.step HB9.out (HX15.out.sb fun _ => False) fun b hb => hb.elim⟩
end Go.Proofs.YtohajcflklejjaaGreat
namespace Go.Proofs.YtohajcflklejjaaGreat
open Go.RowKit
set_option linter.unusedVariables false
set_option linter.unusedSimpArgs false
set_option maxRecDepth 100000
section
variable {H : Type} {enc : TypeId × Value → H} {w : World} {held : Bool}
theorem cellsOfQuery : Tryz.prog.cellsOf 24 = 4 := by kernel_rfl
theorem four_list {cs : List Value} (h : cs.length = 4) : ∃ a b c d, cs = [a, b, c, d] := by
  match cs, h with
  | [a, b, c, d], _ => exact ⟨_, _, _, _, rfl⟩
theorem query_of_trod {fuel : Nat} {cs : List Value} {x : DataW H × List MemPlace} (h : tr enc Tryz.prog w held fuel 24 cs = some x) (hw : WOk Tryz.prog 24 x.1) : ∃ q : Qy, cs = [.int .i64 q.kind, .string q.lo, .string q.hi, .bool q.op] ∧ q.short := by
  obtain ⟨n, rfl, hl, hf⟩ := trod_fields Tryz.underlying24 h hw
  rw [cellsOfQuery] at hl
  obtain ⟨c0, c1, c2, c3, rfl⟩ := four_list hl
  obtain ⟨y0, h0, w0⟩ := hf 0 _ rfl
  obtain ⟨y1, h1, w1⟩ := hf 1 _ rfl
  obtain ⟨y2, h2, w2⟩ := hf 2 _ rfl
  obtain ⟨y3, h3, w3⟩ := hf 3 _ rfl
  dsimp only at h0 h1 h2 h3
  rw [show Tryz.prog.cellsOf _ = 1 from by kernel_rfl] at h0 h1 h2 h3
  obtain ⟨kd, k0, -⟩ := trod_i (by kernel_rfl) h0
  obtain ⟨lo, k1, hlo⟩ := trod_s (by kernel_rfl) h1
  obtain ⟨hi, k2, hhi⟩ := trod_s (by kernel_rfl) h2
  obtain ⟨op, k3⟩ := trod_b (by kernel_rfl) h3
  have e0 : c0 = .int .i64 kd := by simpa using k0
  have e1 : c1 = .string lo := by simpa using k1
  have e2 : c2 = .string hi := by simpa using k2
  have e3 : c3 = .bool op := by simpa using k3
  subst e0 e1 e2 e3
  exact ⟨⟨kd, lo, hi, op⟩, rfl, hlo, hhi⟩
end
end Go.Proofs.YtohajcflklejjaaGreat
