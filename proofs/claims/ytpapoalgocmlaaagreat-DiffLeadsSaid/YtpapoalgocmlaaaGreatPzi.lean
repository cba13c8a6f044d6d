/- What the theorem needs of the texts Play9, Pl9: no condition of its own. -/
import Derived.Test.YtpapoalgocmlaaaGreatPza
import Derived.Test.YtpapoalgocmlaaaGreatPzb
import Derived.Test.YtpapoalgocmlaaaGreatPzc
import Derived.Test.YtpapoalgocmlaaaGreatPzd
import Derived.Test.YtpapoalgocmlaaaGreatPze
import Derived.Test.YtpapoalgocmlaaaGreatPzf
import Derived.Test.YtpapoalgocmlaaaGreatPzg
import Derived.Test.YtpapoalgocmlaaaGreatPzh
namespace Go.Proofs.YtpapoalgocmlaaaGreat
open Go.RowKit
set_option linter.unusedVariables false
set_option linter.unusedSimpArgs false
def PlayPost (H : Nat → Prop) (n : Nat) (w : World) (e : Ending) (w' : World) : Prop :=
  ∃ (T' : RT) (p' : Option Addr) (M' : Nat), e = .returned (.tuple #[.agg #[.pointer p'], .pointer (some ⟨M', 0, none⟩)]) ∧ rootV T' = .pointer p' ∧ PlayI (fun b => H b ∨ b = M') M' T' w' ∧ Ext w w' ∧ w.heap.size ≤ M' ∧ (entsT T').length ≤ n
set_option maxRecDepth 100000 in
set_option maxHeartbeats 8000000 in
theorem play_any {H G : Nat → Prop} {M : Nat} {T : RT} {w : World} {s : Sl} {l : List LA} (hI : PlayI H M T w) (hH : ∀ b, H b → b < w.heap.size) (ha : AS w G s l) (hG : ∀ b, G b → b < w.heap.size ∧ ¬ H b) (hc : (entsT T).length + l.length ≤ 100000) {p : Option Addr} (hp : rootV T = .pointer p) :
    Calls Tryz.prog 6 #[.agg #[.pointer p], .pointer (some ⟨M, 0, none⟩), .slice s.a l.length s.c] w (PlayPost H ((entsT T).length + l.length) w) := by
  have hfew := ha.few
  have hcp := fun (W : World) (hW : Ext w W) => copy7_any ((hI.wide W.heap.size).map.ext hW) (fun b hb => hb.elim (fun hb => Nat.lt_of_lt_of_le (hH b hb) hW.size) fun hb => hb.2) (by omega)
  have HA := Lib.hid ha
  have HI := Lib.hid hI
  have HH := Lib.hid hH
  have HG := Lib.hid hG
  have HP := Lib.hid hp
  have HCP := Lib.hid hcp
  obtain ⟨n0, hn0⟩ : ∃ n, (entsT T).length = n := ⟨_, rfl⟩
  rw [hn0] at hc ⊢
  have HN0 := Lib.hid hn0
  clear ha hI hH hG hp hcp hn0
  go_enter Tryz.func6, Tryz.ntmps6
  go_wp2_with fail
  generalize hW0 : World.alloc (World.alloc _ _) _ = W0
  obtain ⟨hx0, hz0, hb0, hb1⟩ := two_blocks w _ _ _ _ W0 hW0
  have hz0l : w.heap.size + 2 ≤ W0.heap.size := by omega
  clear hW0 hz0
  refine (HCP.out W0 hx0).mono ?_
  rintro e w1 ⟨M', rfl, hM', hx1, hmap'⟩
  have hM1 : M' < w1.heap.size := by
    obtain ⟨-, s9, xs9, hb9, -⟩ := hmap'
    exact hb9.lt
  have hs1 := hx1.size
  obtain ⟨K, hK⟩ : ∃ K : Nat → Prop, K = fun b => H b ∨ b = M' ∨ (w.heap.size ≤ b ∧ b < w.heap.size + 2) := ⟨_, rfl⟩
  have hKl : ∀ b, K b → b < w1.heap.size := fun b hb => by
    rw [hK] at hb
    rcases hb with h | h | h
    · have := HH.out b h; have := hx0.size; omega
    · omega
    · omega
  have hI1 : PlayI K M' T w1 := by
    have h1 := hx0.trans hx1
    have hm : MapAt K w1 M' (entsT T) := hmap'.less (fun b hb => by
      rw [hK] at hb
      rcases hb with h | h | h
      · exact .inl (.inl h)
      · exact .inr h
      · exact .inl (.inr (by omega))) (by rw [hK]; exact .inr (.inl rfl))
    exact ⟨hm, (HI.out.tree.agree (h1.agree fun b hb => hb.1)).mono fun i hi => ⟨Nat.lt_of_lt_of_le hi.1 h1.size, fun hh => by
      rw [hK] at hh
      rcases hh with h | h | h
      · exact hi.2 h
      · have := hi.1; omega
      · have := hi.1; omega⟩, HI.out.ok⟩
  have hX1 := hx0.trans hx1
  have hbt1 := hb0.ext hx1
  have hbr1 := hb1.ext hx1
  have HX1 := Lib.hid hX1
  have HI1 := Lib.hid hI1
  have HBT1 := Lib.hid hbt1
  have HBR1 := Lib.hid hbr1
  have HK := Lib.hid hK
  have HKL := Lib.hid hKl
  clear hx0 hb0 hb1 hx1 hmap' hK hKl hI1 hX1 hbt1 hbr1
  go_wp2_with fail
  go_loopw [9] (fun i wr => ∃ (j : Nat) (T' : RT), j ≤ l.length ∧ i = .int .i64 j ∧ (entsT T').length ≤ n0 + j ∧ PlayI K M' T' wr ∧ Blk wr w.heap.size 27 #[rootV T'] ∧ Blk wr (w.heap.size + 1) 27 #[.pointer none] ∧ Ext w wr ∧ w1.heap.size ≤ wr.heap.size) (fun i _ => l.length - (intOf i).toNat)
  case atStart => exact ⟨0, T, Nat.zero_le _, rfl, by rw [HN0.out]; exact Nat.le_refl _, HI1.out, by rw [HP.out]; exact HBT1.out, HBR1.out, HX1.out, Nat.le_refl _⟩
  case round =>
    obtain ⟨j, T1, hj, rfl, hlT, hI, hbT, hbR, hX, hsz⟩ := hrel
    have HI := Lib.hid hI
    have HBT := Lib.hid hbT
    have HBR := Lib.hid hbR
    have HX := Lib.hid hX
    obtain ⟨p1, hp1⟩ := rootV_ptr T1
    rw [hp1] at hbT
    have t0 : wr.cell? ⟨w.heap.size, 0, none⟩ = some (.pointer p1) := hbT.cell 0
    have ft := hbT.frozen 0
    have lt := hbT.lt
    by_cases hlt : j < l.length
    · have g1 : (j : Int) < (l.length : Int) := by omega
      obtain ⟨a, haa⟩ : ∃ a, l[j]? = some a := ⟨_, List.getElem?_eq_getElem hlt⟩
      obtain ⟨b, o, hsa, lb, hcc, hcm, ⟨a0, a1, av⟩, hrv, hkm, hwf⟩ := (HA.out.agree (hX.agree fun b hb => (HG.out b hb).1)).at haa
      obtain ⟨v0, v1, v2, v3, v4, v5⟩ := av
      obtain ⟨sa, sc⟩ := s
      dsimp only at hsa hcc hcm
      subst hsa
      have lbw := (HG.out b lb).1
      have hGK : ∀ i, G i → i < wr.heap.size ∧ ¬ K i := fun i hi => ⟨by have := (HG.out i hi).1; omega, fun hh => by
        rw [HK.out] at hh
        have := (HG.out i hi).1
        rcases hh with h | h | h
        · exact (HG.out i hi).2 h
        · omega
        · omega⟩
      have hdo := doI (a := a) hI (fun b hb => by have := HKL.out b hb; omega) (by omega) hkm (hrv.mono hGK) hp1
      have HSS := Lib.hid (show ∀ W, St (fun b => b = M' ∨ b = w.heap.size) wr W → W.cell? ⟨b, o + j * 8, none⟩ = some (.int .i64 a.kd) ∧ W.cell? ⟨b, o + j * 8 + 1, none⟩ = some (.string a.k) ∧ W.cell? ⟨b, o + j * 8 + 2, none⟩ = some (.int .i64 a.v.kind) ∧ W.cell? ⟨b, o + j * 8 + 3, none⟩ = some (.bool a.v.b) ∧ W.cell? ⟨b, o + j * 8 + 4, none⟩ = some (.int .i64 a.v.i) ∧ W.cell? ⟨b, o + j * 8 + 5, none⟩ = some (.string a.v.t) ∧ W.cell? ⟨b, o + j * 8 + 6, none⟩ = some (.slice a.sl.a a.v.l.length a.sl.c) ∧ W.cell? ⟨b, o + j * 8 + 7, none⟩ = some (.slice a.so.a a.v.ok.length a.so.c) from
        fun W hW => ⟨(hW.cell (by omega) (by omega)).trans a0, (hW.cell (by omega) (by omega)).trans a1, (hW.cell (by omega) (by omega)).trans v0, (hW.cell (by omega) (by omega)).trans v1, (hW.cell (by omega) (by omega)).trans v2, (hW.cell (by omega) (by omega)).trans v3, (hW.cell (by omega) (by omega)).trans v4, (hW.cell (by omega) (by omega)).trans v5⟩)
      have HDO := Lib.hid hdo
      have HP1 := Lib.hid hp1
      have HOK := Lib.hid hI.ok
      have hneM : ¬ w.heap.size = M' := by omega
      have hneM' : ¬ w.heap.size + 1 = M' := by omega
      clear hI hX haa hrv a0 a1 v0 v1 v2 v3 v4 v5 hdo hp1 hbT hbR hGK
      go_wp2_with fail
      refine wp_region_held_drew (S := (fun w' => St (fun b => b = M' ∨ b = w.heap.size) wr w')) (by kernel_rfl) (((St.refl _ wr).drew)) (fun hHeld => ?_)
      refine held_on (i := 1) (d := (some 20)) (v := ?_) rfl rfl (by kernel_rfl) (by kernel_rfl) (by kernel_rfl) (fun _ _ _ h => h) (by rfl) hHeld ?_ ?_
      rotate_left
      focus (intro w hSw; have hSc := HSS.out w hSw; clear hSw; go_simp; first | done | with_reducible rfl)
      try simp only [Act.put, List.setIfInBounds_toArray, List.set_cons_zero, List.set_cons_succ]
      refine held_on (i := 2) (d := (some 21)) (v := ?_) rfl rfl (by kernel_rfl) (by kernel_rfl) (by kernel_rfl) (fun _ _ _ h => h) (by rfl) hHeld ?_ ?_
      rotate_left
      focus (intro w hSw; have hSc := HSS.out w hSw; clear hSw; go_simp; first | done | with_reducible rfl)
      try simp only [Act.put, List.setIfInBounds_toArray, List.set_cons_zero, List.set_cons_succ]
      refine held_on (i := 3) (d := (some 22)) (v := ?_) rfl rfl (by kernel_rfl) (by kernel_rfl) (by kernel_rfl) (fun _ _ _ h => h) (by rfl) hHeld ?_ ?_
      rotate_left
      focus (intro w hSw; have hSc := HSS.out w hSw; clear hSw; go_simp; first | done | with_reducible rfl)
      try simp only [Act.put, List.setIfInBounds_toArray, List.set_cons_zero, List.set_cons_succ]
      refine held_on (i := 4) (d := (some 23)) (v := ?_) rfl rfl (by kernel_rfl) (by kernel_rfl) (by kernel_rfl) (fun _ _ _ h => h) (by rfl) hHeld ?_ ?_
      rotate_left
      focus (intro w hSw; have hSc := HSS.out w hSw; clear hSw; go_simp; first | done | with_reducible rfl)
      try simp only [Act.put, List.setIfInBounds_toArray, List.set_cons_zero, List.set_cons_succ]
      refine held_on (i := 5) (d := (some 24)) (v := ?_) rfl rfl (by kernel_rfl) (by kernel_rfl) (by kernel_rfl) (fun _ _ _ h => h) (by rfl) hHeld ?_ ?_
      rotate_left
      focus (intro w hSw; have hSc := HSS.out w hSw; clear hSw; go_simp; first | done | with_reducible rfl)
      try simp only [Act.put, List.setIfInBounds_toArray, List.set_cons_zero, List.set_cons_succ]
      refine held_call (i := 0) (by kernel_rfl) rfl (by rfl) (fun K hK => ?_)
      go_simp
      skip
      refine hK.out _ _ (hHeld) (fun hHeld => ?_)
      clear hK K
      try simp only [Act.put, List.setIfInBounds_toArray, List.set_cons_zero, List.set_cons_succ]
      refine held_call (i := 6) (by kernel_rfl) rfl (by rfl) (fun K hK => ?_)
      go_simp
      (refine (HDO.out _ ((Ext.refl wr).drew)).mono ?_; rintro e w2 ⟨T', p', rfl, hp', hst', hI', hs2⟩; have HP' := Lib.hid hp'; have HST' := Lib.hid hst'; have HI' := Lib.hid hI'; have hs3 := ((St.refl (fun b => b = M') wr).drew).trans hs2; have hb6 := hs3.blk HBT.out hneM; have HB6 := Lib.hid hb6; have HB7 := Lib.hid (hs3.blk HBR.out hneM'); rw [HP1.out] at hb6; have c6 : w2.cell? ⟨w.heap.size, 0, none⟩ = some (.pointer p1) := hb6.cell 0; have f6 := hb6.frozen 0; have l6 := hb6.lt; have HS6 := Lib.hid (hs3.mono (G := fun b => b = M' ∨ b = w.heap.size) fun i _ hi => .inl hi); clear hp' hst' hI' hb6 hs2 hs3)
      refine hK.out _ _ (HS6.out) (fun hHeld => ?_)
      clear hK K
      try simp only [Act.put, List.setIfInBounds_toArray, List.set_cons_zero, List.set_cons_succ]
      refine held_on (i := 7) (d := (some 18)) (v := ?_) rfl rfl (by kernel_rfl) (by kernel_rfl) (by kernel_rfl) (fun _ _ _ h => h) (by rfl) hHeld ?_ ?_
      rotate_left
      focus (intro w hSw; have hSc := HSS.out w hSw; clear hSw; go_simp; first | done | with_reducible rfl)
      try simp only [Act.put, List.setIfInBounds_toArray, List.set_cons_zero, List.set_cons_succ]
      refine held_on (i := 8) (d := (some 26)) (v := ?_) rfl rfl (by kernel_rfl) (by kernel_rfl) (by kernel_rfl) (fun _ _ _ h => h) (by rfl) hHeld ?_ ?_
      rotate_left
      focus (intro w hSw; have hSc := HSS.out w hSw; clear hSw; go_simp; first | done | with_reducible rfl)
      try simp only [Act.put, List.setIfInBounds_toArray, List.set_cons_zero, List.set_cons_succ]
      refine held_on (i := 9) (d := (some 27)) (v := ?_) rfl rfl (by kernel_rfl) (by kernel_rfl) (by kernel_rfl) (fun _ _ _ h => h) (by rfl) hHeld ?_ ?_
      rotate_left
      focus (intro w hSw; have hSc := HSS.out w hSw; clear hSw; go_simp; first | done | with_reducible rfl)
      try simp only [Act.put, List.setIfInBounds_toArray, List.set_cons_zero, List.set_cons_succ]
      refine held_call (i := 10) (by kernel_rfl) rfl (by rfl) (fun K hK => ?_)
      go_simp
      skip
      refine hK.out _ _ (hHeld.set (p := ⟨w.heap.size, 0, none⟩) (.inr (.inr rfl)) _) (fun hHeld => ?_)
      clear hK K
      try simp only [Act.put, List.setIfInBounds_toArray, List.set_cons_zero, List.set_cons_succ]
      refine wpAnyH_done (by kernel_rfl) ?_ _
      have hset : St (fun b => b = w.heap.size) w2 (w2.setCell ⟨w.heap.size, 0, none⟩ (.pointer p')) := (St.refl (fun b => b = w.heap.size) w2).set (p := ⟨w.heap.size, 0, none⟩) (.inr rfl) _
      have hlen' : (entsT T').length ≤ n0 + (j + 1) := by
        rw [HST'.out.ents HOK.out]
        have := stepE_len a.kd a.k a.v (entsT T1)
        omega
      have HN := Lib.hid ((HI'.out.less (fun b hb => .inl hb) (by rw [HK.out]; exact .inr (.inl rfl))).st hset (fun b hb => by rw [HK.out]; exact .inr (.inr ⟨by omega, by omega⟩)) (fun e => hneM e.symm))
      have HBN := Lib.hid (show Blk (w2.setCell ⟨w.heap.size, 0, none⟩ (.pointer p')) w.heap.size 27 #[rootV T'] by rw [HP'.out]; exact HB6.out.set_ 0 _)
      have HBM := Lib.hid (hset.blk HB7.out (show ¬ w.heap.size + 1 = w.heap.size by omega))
      have HXN := Lib.hid (HX.out.step hHeld (fun b hb => by omega))
      have hszn : w1.heap.size ≤ (w2.setCell ⟨w.heap.size, 0, none⟩ (.pointer p')).heap.size := Nat.le_trans hsz hHeld.size
      generalize w2.setCell ⟨w.heap.size, 0, none⟩ (.pointer p') = w8 at *
      clear hHeld hset c6 f6 l6 t0 ft lt
      go_wp2_with fail
      go_roundw
      case rel => exact ⟨j + 1, T', hlt, by go_num, hlen', HN.out, HBN.out, HBM.out, HXN.out, hszn⟩
      case measure => simp [intOf]; omega
    · have g1 : ¬ (j : Int) < (l.length : Int) := by omega
      have r0 : wr.cell? ⟨w.heap.size + 1, 0, none⟩ = some (.pointer none) := hbR.cell 0
      have fr := hbR.frozen 0
      have lr := hbR.lt
      have HP1 := Lib.hid hp1
      clear hI hX hp1 hbT hbR
      go_wp2_with fail
      have hset : St (fun b => b = w.heap.size + 1) wr (wr.setCell ⟨w.heap.size + 1, 0, none⟩ (.pointer p1)) := (St.refl (fun b => b = w.heap.size + 1) wr).set (p := ⟨w.heap.size + 1, 0, none⟩) (.inr rfl) _
      have qr : (wr.setCell ⟨w.heap.size + 1, 0, none⟩ (.pointer p1)).cell? ⟨w.heap.size + 1, 0, none⟩ = some (.pointer p1) := World.cell?_setCell_same wr _ _ r0
      refine bodyPost_ret (v := .tuple #[.agg #[.pointer p1], .pointer (some ⟨M', 0, none⟩)]) (by simp [results, Tryz.results6, go_sem, qr]) rfl ?_
      have hlow := hz0l
      refine ⟨T1, p1, M', rfl, HP1.out, ?_, HX.out.setCell (p := ⟨w.heap.size + 1, 0, none⟩) (Nat.le_succ _) _, by omega, by omega⟩
      exact (HI.out.st hset (fun b hb => by rw [HK.out]; exact .inr (.inr ⟨by omega, by omega⟩)) (by omega)).less (fun b hb => by rw [HK.out]; exact hb.elim .inl fun h => .inr (.inl h)) (.inr rfl)
end Go.Proofs.YtpapoalgocmlaaaGreat
namespace Go.Proofs.YtpapoalgocmlaaaGreat
open Go.RowKit Go.Shelf
set_option linter.unusedVariables false
set_option linter.unusedSimpArgs false
structure Pl (base : Nat) (H : Nat → Prop) (M : Nat) (T : RT) (p : Option Addr) (n : Nat) (W : World) : Prop where
  lo : ∀ b, H b → base ≤ b
  sz : base ≤ W.heap.size
  play : PlayI H M T W
  hH : ∀ b, H b → b < W.heap.size
  root : rootV T = .pointer p
  few : (entsT T).length ≤ n
theorem Pl.ext {base : Nat} {H : Nat → Prop} {M : Nat} {T : RT} {p : Option Addr} {n : Nat} {w w' : World} (h : Pl base H M T p n w) (k : Ext w w') : Pl base H M T p n w' := ⟨h.lo, Nat.le_trans h.sz k.size, h.play.ext k, fun b hb => Nat.lt_of_lt_of_le (h.hH b hb) k.size, h.root, h.few⟩
theorem Pl.run {base : Nat} {H G : Nat → Prop} {M : Nat} {T : RT} {p : Option Addr} {n : Nat} {w : World} {s : Sl} {l : List LA} (h : Pl base H M T p n w) (ha : AS w G s l) (hG : ∀ b, G b → b < w.heap.size ∧ ¬ H b) (hc : n + l.length ≤ 100000) :
    Calls Tryz.prog 6 #[.agg #[.pointer p], .pointer (some ⟨M, 0, none⟩), .slice s.a l.length s.c] w fun e w' => ∃ (T' : RT) (p' : Option Addr) (M' : Nat), e = .returned (.tuple #[.agg #[.pointer p'], .pointer (some ⟨M', 0, none⟩)]) ∧ Pl base (fun b => H b ∨ b = M') M' T' p' (n + l.length) w' ∧ Ext w w' ∧ w.heap.size ≤ M' := by
  have hsz := h.sz
  have hf := h.few
  refine (play_any h.play h.hH ha hG (by omega) h.root).mono ?_
  rintro e w' ⟨T', p', M', rfl, hp', hI, hx, hM, hl⟩
  refine ⟨T', p', M', rfl, ⟨fun b hb => hb.elim (h.lo b) (fun e => by omega), Nat.le_trans hsz hx.size, hI, fun b hb => ?_, hp', by omega⟩, hx, hM⟩
  rcases hb with hb | rfl
  · exact Nat.lt_of_lt_of_le (h.hH b hb) hx.size
  · obtain ⟨-, s9, xs9, hb9, -⟩ := hI.map
    exact hb9.lt
theorem Pl.changes {base : Nat} {H H' : Nat → Prop} {M M' : Nat} {T U : RT} {p q : Option Addr} {n n' : Nat} {w : World} (h : Pl base H M T p n w) (h' : Pl base H' M' U q n' w) (hn : n ≤ 100000) (hn' : n' ≤ 100000) :
    Calls Tryz.prog 8 #[.agg #[.pointer p], .agg #[.pointer q]] w (ChangesPost (chg (entsT T) (entsT U)) w) := by
  have := changes_any (F := NH H w) (F' := NH H' w) h.play.tree h'.play.tree (fun b hb => hb.1) (fun b hb => hb.1) h.play.ok h'.play.ok (by have := h.few; omega) (by have := h'.few; omega)
  rwa [treeV, treeV, h.root, h'.root] at this
theorem Pl.box {base : Nat} {H : Nat → Prop} {M : Nat} {T : RT} {p : Option Addr} {n : Nat} {w : World} (h : Pl base H M T p n w) (cs : Array Value) (t : TypeId) : Pl base (fun b => H b ∨ b = w.heap.size) M T p n (w.alloc (.cells cs t)) := by
  have hx := (Ext.refl w).alloc cs t
  have hz : (w.alloc (.cells cs t)).heap.size = w.heap.size + 1 := by simp
  refine ⟨fun b hb => hb.elim (h.lo b) (fun e => by have := h.sz; omega), Nat.le_trans h.sz hx.size, (((h.play.wide (w.heap.size + 1)).less (fun b hb => hb.elim .inl fun e => .inr (by omega)) (.inl h.play.map.hm)).ext hx), fun b hb => ?_, h.root, h.few⟩
  rcases hb with hb | hb
  · have := h.hH b hb; omega
  · omega
theorem Pl.set {base : Nat} {H : Nat → Prop} {M : Nat} {T : RT} {p : Option Addr} {n : Nat} {w : World} (h : Pl base H M T p n w) {b : Nat} (hb : H b) (hM : M ≠ b) (v : Value) : Pl base H M T p n (w.setCell ⟨b, 0, none⟩ v) :=
  ⟨h.lo, by rw [World.size_setCell]; exact h.sz, h.play.st ((St.refl (fun i => i = b) w).set (p := ⟨b, 0, none⟩) (.inr rfl) v) (fun i hi => hi ▸ hb) hM, fun i hi => by rw [World.size_setCell]; exact h.hH i hi, h.root, h.few⟩
end Go.Proofs.YtpapoalgocmlaaaGreat
