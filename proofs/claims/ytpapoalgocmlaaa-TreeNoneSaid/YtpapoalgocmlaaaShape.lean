/- (*Node).Shape: a node's shape, in new memory. -/
import Derived.Test.YtpapoalgocmlaaaGather
import Derived.Test.YtpapoalgocmlaaaShM
import Derived.Test.YtpapoalgocmlaaaStep
namespace Go.Proofs.Ytpapoalgocmlaaa
open Go.RowKit
set_option linter.unusedVariables false
set_option linter.unusedSimpArgs false

theorem Try.infoShape : (Try.prog.info? 119).map (fun i => (i.zero, i.size, i.bytes)) = some (some (.agg #[.slice none 0 0, .slice none 0 0]), 2, 48) := by kernel_rfl
/-- What Shape hands back. -/
def ShapePost (d : Sh) (w : World) (e : Ending) (w' : World) : Prop :=
  ∃ se sk, e = .returned (aggS d se sk) ∧ Ext w w' ∧ RS w' (In w.heap.size w'.heap.size) d se sk

/-- A shape, and where its two slices lie. -/
abbrev LS := Sh × Sl × Sl
def LS.cells (x : LS) : List Value := [.slice x.2.1.a x.1.es.length x.2.1.c, .slice x.2.2.a x.1.ks.length x.2.2.c]
def flatD (ds : List LS) : List Value := ds.flatMap LS.cells
theorem flatD_app (a b : List LS) : flatD (a ++ b) = flatD a ++ flatD b := by simp [flatD]
theorem flatD_len (ds : List LS) : (flatD ds).length = ds.length * 2 := by
  induction ds with
  | nil => rfl
  | cons d ds ih => simp only [flatD, List.flatMap_cons, List.length_append, List.length_cons] at ih ⊢; rw [ih]; simp [LS.cells]; omega
theorem flatD_at : ∀ {ds : List LS} {i : Nat} {x : LS}, ds[i]? = some x → ∀ c, c < 2 → (flatD ds)[i * 2 + c]? = (LS.cells x)[c]?
  | [], i, x, h, _, _ => by simp at h
  | y :: ys, 0, x, h, c, hc => by
    simp at h; subst h
    simp only [flatD, List.flatMap_cons]
    rw [Nat.zero_mul, Nat.zero_add, List.getElem?_append_left (by simp [LS.cells]; exact hc)]
  | y :: ys, i + 1, x, h, c, hc => by
    simp at h
    simp only [flatD, List.flatMap_cons]
    rw [List.getElem?_append_right (by simp [LS.cells]; omega)]
    have : (i + 1) * 2 + c - (LS.cells y).length = i * 2 + c := by simp [LS.cells]; omega
    rw [this]
    exact flatD_at h c hc
theorem flatD_one (ds : List LS) : ∀ u ∈ flatD ds, u.oneCell' = true := fun u hu => by
  obtain ⟨x, -, hx⟩ := List.mem_flatMap.1 hu
  simp [LS.cells] at hx
  rcases hx with rfl | rfl <;> rfl
theorem LS.one (x : LS) : ∀ u ∈ LS.cells x, u.oneCell' = true := fun u hu => by
  simp [LS.cells] at hu
  rcases hu with rfl | rfl <;> rfl
/-- An owned row of shapes. -/
structure OS (w : World) (base : Nat) (s : Sl) (ds : List LS) : Prop where
  own : w.ownsRow base 119 2 (.slice s.a ds.length s.c) ds.length (flatD ds)
  vals : ∀ x ∈ ds, RS w (fun b => (base ≤ b ∧ b < w.heap.size) ∧ s.row ≠ some b) x.1 x.2.1 x.2.2
  few : ds.length ≤ 1000
theorem OS.nil (w : World) (base : Nat) : OS w base Sl.none [] := ⟨World.ownsRow_nil _ _ _ _, fun x h => by simp at h, by simp⟩
theorem OS.ext {w w' : World} {base : Nat} {s : Sl} {ds : List LS} (h : OS w base s ds) (he : Ext w w') : OS w' base s ds :=
  ⟨own_agree h.own (he.agree (F := Lt w.heap.size) fun _ hi => hi) fun b hb => (own_row h.own hb).2, fun x hx => ((h.vals x hx).agree (he.agree fun _ hi => hi.1.2)).mono fun i hi => ⟨⟨hi.1.1, Nat.lt_of_lt_of_le hi.1.2 he.size⟩, hi.2⟩, h.few⟩
theorem OS.agree {w w' : World} {base : Nat} {s : Sl} {ds : List LS} (h : OS w base s ds) (ha : Agree (fun b => base ≤ b ∧ b < w.heap.size) w w') (hs : w.heap.size ≤ w'.heap.size) : OS w' base s ds :=
  ⟨own_agree h.own ha fun b hb => own_row h.own hb, fun x hx => ((h.vals x hx).agree (ha.mono fun i hi => hi.1)).mono fun i hi => ⟨⟨hi.1.1, Nat.lt_of_lt_of_le hi.1.2 hs⟩, hi.2⟩, h.few⟩
theorem OS.snoc {w w' : World} {base : Nat} {s s' : Sl} {ds : List LS} {x : LS} {F : Nat → Prop} (ho : OS w base s ds) (hv : RS w F x.1 x.2.1 x.2.2) (hF : ∀ b, F b → base ≤ b ∧ b < w.heap.size ∧ s.row ≠ some b) (hf : ds.length + 1 ≤ 1000)
    (hown : w'.ownsRow base 119 2 (.slice s'.a (ds.length + 1) s'.c) (ds.length + 1) (flatD ds ++ LS.cells x)) (hwr : Wr w w' s.row) (hs' : s'.a = s.a ∨ s'.a = some ⟨w.heap.size, 0, none⟩) : OS w' base s' (ds ++ [x]) := by
  have hnew : ∀ b, b < w.heap.size → s.row ≠ some b → s'.row ≠ some b := fun b hb hn he => by
    rcases hs' with h | h
    · exact hn (by rw [← he]; simp [Sl.row, h])
    · simp [Sl.row, h] at he; omega
  have hag : Agree (fun b => (base ≤ b ∧ b < w.heap.size) ∧ s.row ≠ some b) w w' := hwr.agree (fun i hi => hi.1.2) (fun k hk h => h.2 hk)
  have hup : ∀ i, ((base ≤ i ∧ i < w.heap.size) ∧ s.row ≠ some i) → (base ≤ i ∧ i < w'.heap.size) ∧ s'.row ≠ some i := fun i hi => ⟨⟨hi.1.1, Nat.lt_of_lt_of_le hi.1.2 hwr.grown.size⟩, hnew i hi.1.2 hi.2⟩
  refine ⟨by rw [List.length_append, flatD_app]; simpa [flatD] using hown, fun y hy => ?_, by rw [List.length_append]; simpa using hf⟩
  rcases List.mem_append.1 hy with hy | hy
  · exact ((ho.vals y hy).agree hag).mono hup
  · obtain rfl := List.mem_singleton.1 hy
    exact ((hv.mono fun i hi => ⟨⟨(hF i hi).1, (hF i hi).2.1⟩, (hF i hi).2.2⟩).agree hag).mono hup
/-- A shape whose kids lie in an owned row. -/
theorem OS.shape {w : World} {base : Nat} {s : Sl} {ds : List LS} (ho : OS w base s ds) : RS w (fun b => base ≤ b ∧ b < w.heap.size) (.mk [] (ds.map Prod.fst)) Sl.none s := by
  obtain ⟨b, o, h1, h2, h3⟩ := Rd.of_own ho.own
  refine .mk [] b o (fun j => (ds[j]?.map Prod.snd).getD (Sl.none, Sl.none)) rfl (ES.nil _ _) (by rw [List.length_map]; exact h1) (fun j d hd => ?_) (fun j d hd => ?_) (by have := ho.few; rw [List.length_map]; omega)
  · rw [List.getElem?_map] at hd
    obtain ⟨x, hx, rfl⟩ := Option.map_eq_some_iff.1 hd
    rw [hx]
    have a0 := h3 (j * 2 + 0) _ (by rw [flatD_at hx 0 (by omega)]; rfl)
    have a1 := h3 (j * 2 + 1) _ (by rw [flatD_at hx 1 (by omega)]; rfl)
    exact ⟨a0, by rw [Nat.add_assoc]; exact a1⟩
  · rw [List.getElem?_map] at hd
    obtain ⟨x, hx, rfl⟩ := Option.map_eq_some_iff.1 hd
    rw [hx]
    exact (ho.vals x (List.mem_of_getElem? hx)).mono fun i hi => hi.1

set_option maxRecDepth 100000 in
set_option maxHeartbeats 1000000 in
theorem shape_zero {w : World} {t : PT 0} (hn : IsN w (Lt w.heap.size) 0 t) : Calls Try.prog 75 #[ptr 0 t] w (ShapePost (shOf 0 t) w) := by
  have hx0 : Ext w (w.alloc (.cells #[.slice none 0 0, .slice none 0 0] 119)) := (Ext.refl w).alloc _ _
  have hb0 := Blk.new w 119 #[.slice none 0 0, .slice none 0 0]
  have he := entries_any (hn.ext hx0)
  have hk : ∀ W, Ext w W → W.cell? ⟨addr 0 t, 1, none⟩ = some (.slice none 0 0) := fun W hW => by
    obtain ⟨-, s, xs, hb, -, -⟩ := hn.ext hW
    exact hb.c7.2.1
  have hal : addr 0 t < w.heap.size := by obtain ⟨-, s, xs, hb, -, -⟩ := hn; exact hb.lt
  have HK := Lib.hid hk
  clear hn hk
  go_enter Try.func75, Try.ntmps75
  go_wp2_with fail
  refine he.mono ?_
  intro e w1 hp
  obtain ⟨sy, ys, rfl, hys, hoy, hx1⟩ := hp.base
  have hX1 := hx0.trans hx1
  have hb1 := hb0.ext hx1
  have k1 := HK.out _ (hX1.alloc #[.slice sy.a ys.length sy.c, .slice none 0 0] 119)
  have c0 : w1.cell? ⟨w.heap.size, 0, none⟩ = some (.slice none 0 0) := hb1.cell 0
  have c1 : w1.cell? ⟨w.heap.size, 1, none⟩ = some (.slice none 0 0) := hb1.cell 1
  have f0 := hb1.frozen
  have l0 := hb1.lt
  have hal1 : addr 0 t < w1.heap.size := Nat.lt_of_lt_of_le hal hX1.size
  have HOY := Lib.hid hoy
  have HYS := Lib.hid hys
  have HX1 := Lib.hid hX1
  have HXX := Lib.hid hx1
  clear hp hys hoy hx1 hX1 hb1 hb0 hx0 he
  go_wp2_with fail
  go_loopw [17] (fun i wr => i = .int .i64 0 ∧ wr = w1.alloc (.cells #[.slice sy.a ys.length sy.c, .slice none 0 0] 119)) (fun _ _ => 0)
  case atStart => exact ⟨rfl, rfl⟩
  case round =>
    obtain ⟨rfl, rfl⟩ := hrel
    go_wp2_with fail
    refine bodyPost_ret (v := .agg #[.slice sy.a ys.length sy.c, .slice none 0 0]) (by simp [results, Try.results75, go_sem, c0, c1, f0, l0]) rfl ?_
    have e1 : shOf 0 t = .mk (ys.map LE.ent) [] := by rw [HYS.out]; rfl
    have hE := ((HX1.out.setCell (p := ⟨w.heap.size, 0, none⟩) (Nat.le_refl _) (.slice sy.a ys.length sy.c)).setCell (p := ⟨w.heap.size, 1, none⟩) (Nat.le_refl _) (.slice none 0 0)).alloc #[.slice sy.a ys.length sy.c, .slice none 0 0] 119
    refine ⟨sy, Sl.none, by rw [e1]; simp [Sh.es, Sh.ks], hE, ?_⟩
    rw [e1]
    have hes := HOY.out.es
    have hr : RS w1 (In (w.heap.size + 1) w1.heap.size) (.mk (ys.map LE.ent) []) sy Sl.none := RS.leaf (hes.mono fun i hi => ⟨by have := hi.1; simp at this; omega, hi.2⟩)
    refine (hr.agree (((Agree.setCell w1 ⟨w.heap.size, 0, none⟩ _ ?_).trans (Agree.setCell _ ⟨w.heap.size, 1, none⟩ _ ?_)).trans (Agree.alloc _ _ ?_))).mono fun i hi => ⟨by have := hi.1; omega, by have := hi.2; simp; omega⟩
    · intro h; have := h.1; simp at this; omega
    · intro h; have := h.1; simp at this; omega
    · intro b hb; simp; exact hb.2

set_option maxRecDepth 100000 in
set_option maxHeartbeats 1000000 in
theorem shape_succ {h : Nat} (ih : ∀ (t : PT h) (w : World), IsN w (Lt w.heap.size) h t → OkT h t → Calls Try.prog 75 #[ptr h t] w (ShapePost (shOf h t) w))
    {t : PT (h + 1)} {w : World} (hn : IsN w (Lt w.heap.size) (h + 1) t) (ok : OkT (h + 1) t) : Calls Try.prog 75 #[ptr (h + 1) t] w (ShapePost (shOf (h + 1) t) w) := by
  obtain ⟨i0, hi, hz0, hz1, hz2⟩ := info_parts Try.infoShape
  have hx0 : Ext w (w.alloc (.cells #[.slice none 0 0, .slice none 0 0] 119)) := (Ext.refl w).alloc _ _
  have he := entries_inner (hn.ext hx0)
  have hlen8 := ok.2.1
  have hlen2 := ok.1
  obtain ⟨hal, sk, hbk, hrk, hkn⟩ := hn
  have hal : addr (h + 1) t < w.heap.size := hbk.lt
  have hk0 : w.cell? ⟨addr (h + 1) t, 1, none⟩ = some (.slice sk.a t.2.length sk.c) := hbk.c7.2.1
  obtain ⟨b, o, ha, hb, hlc, hcm, -⟩ := hrk.ptr_at (i := 0) (k := t.2[0]'(by omega)) (List.getElem?_eq_getElem (by omega))
  rw [ha] at hk0
  have HRK := Lib.hid hrk
  have HA := Lib.hid ha
  have HKN := Lib.hid hkn
  have HOK := Lib.hid ok
  have HIH := Lib.hid ih
  clear hrk ha hkn ok ih hbk
  have hz : (w.alloc (.cells #[.slice none 0 0, .slice none 0 0] 119)).heap.size = w.heap.size + 1 := by simp
  have hw1 : ∀ W, Ext w W → W.cell? ⟨addr (h + 1) t, 1, none⟩ = some (.slice (some ⟨b, o, none⟩) t.2.length sk.c) := fun W hW => (hW.cell hal).trans hk0
  have HW1 := Lib.hid hw1
  clear hw1 hk0
  go_enter Try.func75, Try.ntmps75
  go_wp2_with fail
  refine he.mono ?_
  rintro e w1 ⟨rfl, rfl⟩
  have k1 := HW1.out _ (hx0.alloc #[.slice none 0 0, .slice none 0 0] 119)
  have hal1 : addr (h + 1) t < w.heap.size + 1 := by omega
  go_wp2_with fail
  generalize hW0 : World.alloc (World.alloc _ _) _ = W0
  obtain ⟨hxx, hzz, hb0, hb1⟩ := two_blocks w _ _ _ _ W0 hW0
  clear hW0 k1 he hx0 hz
  go_loopw [17] (fun i wr => ∃ (j : Nat) (s : Sl) (ds : List LS), j ≤ t.2.length ∧ i = .int .i64 j ∧ Ext w wr ∧ Blk wr w.heap.size 119 #[.slice none 0 0, .slice none 0 0] ∧ Blk wr (w.heap.size + 1) 119 #[.slice none 0 0, .slice s.a ds.length s.c] ∧ OS wr (w.heap.size + 2) s ds ∧ ds.map Prod.fst = (t.2.take j).map (shOf h))
    (fun i _ => t.2.length - (intOf i).toNat)
  case atStart => exact ⟨0, Sl.none, [], Nat.zero_le _, rfl, hxx, hb0, hb1, OS.nil _ _, rfl⟩
  case round =>
    obtain ⟨j, s, ds, hj, rfl, hx, hR, hS, hO, hD⟩ := hrel
    have hdl : ds.length = j := by have := congrArg List.length hD; simpa [Nat.min_eq_left hj] using this
    clear hxx hzz hb0 hb1
    have HX := Lib.hid hx
    have HR := Lib.hid hR
    have HS := Lib.hid hS
    have HO := Lib.hid hO
    have HD := Lib.hid hD
    have HDL := Lib.hid hdl
    by_cases hlt : j < t.2.length
    · obtain ⟨kid, hkid⟩ : ∃ kid, t.2[j]? = some kid := ⟨_, List.getElem?_eq_getElem hlt⟩
      obtain ⟨b', o', hba, hbl, -, -, hbc⟩ := HRK.out.ptr_at hkid
      rw [HA.out] at hba
      obtain ⟨rfl, rfl⟩ : b = b' ∧ o = o' := by simpa using hba
      have kc : wr.cell? ⟨b, o + j, none⟩ = some (ptr h kid) := (hx.cell hbl).trans hbc
      have hjl : (j : Int) < (t.2.length : Int) := by omega
      have hkm := List.mem_of_getElem? hkid
      have c1 : wr.cell? ⟨w.heap.size + 1, 1, none⟩ = some (.slice s.a ds.length s.c) := hS.cell 1
      have fS := hS.frozen
      have lS := hS.lt
      have hfew : ds.length + 1 ≤ 1000 := by omega
      have hic : ∀ W, Ext wr W → Calls Try.prog 75 #[ptr h kid] W (ShapePost (shOf h kid) W) := fun W hW => HIH.out kid W ((HKN.out kid hkm).ext (hx.trans hW)) (HOK.out.2.2 kid hkm).1
      have hown : ∀ W, Ext wr W → W.ownsRow (w.heap.size + 2) 119 2 (.slice s.a ds.length s.c) ds.length (flatD ds) := fun W hW => (hO.ext hW).own
      have HIC := Lib.hid hic
      have HK := Lib.hid hkid
      have HOWN := Lib.hid hown
      clear hown
      have h63 : ds.length + 1 ≤ maxLen := by unfold maxLen; omega
      have hby : (ds.length + 1) * 48 ≤ 140737488355328 := by omega
      have hbs : w.heap.size + 2 ≤ wr.heap.size := by omega
      have hSn : s.row ≠ some (w.heap.size + 1) := fun e => by have := (own_row hO.own e).1; omega
      have cS : ∀ w2, Ext wr.drew w2 → ∀ (w3 : World) (c : Array Value), Wr (w2.alloc (.cells c 119)) w3 s.row → w3.cell? ⟨w.heap.size + 1, 1, none⟩ = some (.slice s.a ds.length s.c) := fun w2 hx2 w3 c hw =>
        (World.cell?_of_block (w := w2.alloc (.cells c 119)) (a := ⟨w.heap.size + 1, 1, none⟩) (hw.grown.block (w.heap.size + 1) (by have := hx2.size; rw [World.size_drew] at this; rw [World.size_alloc]; omega) (fun e => hSn e.symm))).trans
          ((World.cell?_alloc_lt w2 _ _ (Nat.lt_of_lt_of_le lS hx2.size)).trans ((hx2.cell lS).trans c1))
      have fS' : ∀ w2, Ext wr.drew w2 → ∀ (w3 : World) (c : Array Value), Wr (w2.alloc (.cells c 119)) w3 s.row → ∀ o, w3.frozen? ⟨w.heap.size + 1, o, none⟩ = false := fun w2 hx2 w3 c hw o =>
        (hw.fz _ _).trans ((fz_alloc _ _ _ _ _).trans ((hx2.frozen lS).trans (fS o)))
      generalize hn : ds.length = n at *
      have HN := Lib.hid hn
      clear hic hkid hba hbc hkm hx hR hS hO hD hdl hn
      go_wp2_with fail
      go_region_law (first
        | (refine step_append_x _ rfl (.tmp 22) (.tmp 25) 117 rfl (w.heap.size + 2) 119 i0 _ 2 48 Try.underlying117 hi hz0 hz1 hz2 rfl (by decide) s n (flatD ds) (by rfl) (HOWN.out _ (((Ext.refl wr).drew.trans hx2).alloc _ _)) (fun b => b = w2.heap.size) ⟨some ⟨w2.heap.size, 0, none⟩, 1⟩ 1 (LS.cells (shOf h kid, se, sk2)) (by rfl) (Rd.block (Blk.new w2 _ _) (by decide) rfl) (LS.one _) h63 hby (by rw [World.size_alloc]; omega) ?_; intro s3 w3 hown3 hwr3 hs3; have c3 := cS3 w3 hwr3; have f3 := fS3 w3 hwr3)
        | (go_simp; go_at_call 75; refine (HIC.out _ ?_).mono ?_; (exact (Ext.refl _).drew); rintro e w2 ⟨se, sk2, rfl, hx2, hr2⟩; have c2 : w2.cell? ⟨w.heap.size + 1, 1, none⟩ = some (.slice s.a n s.c) := (hx2.cell lS).trans c1; have l2 := Nat.lt_of_lt_of_le lS hx2.size; have hbs2 : w.heap.size + 2 ≤ w2.heap.size := Nat.le_trans hbs hx2.size; have cS3 := fun (w3 : World) (hw : Wr (w2.alloc (.cells #[.slice se.a (shOf h kid).es.length se.c, .slice sk2.a (shOf h kid).ks.length sk2.c] 119)) w3 s.row) => cS w2 hx2 w3 _ hw; have fS3 := fun (w3 : World) (hw : Wr (w2.alloc (.cells #[.slice se.a (shOf h kid).es.length se.c, .slice sk2.a (shOf h kid).ks.length sk2.c] 119)) w3 s.row) => fS' w2 hx2 w3 _ hw))
      all_goals
        have hXa : Ext wr (w2.alloc (.cells #[.slice se.a (shOf h kid).es.length se.c, .slice sk2.a (shOf h kid).ks.length sk2.c] 119)) := (((Ext.refl wr).drew).trans hx2).alloc _ _
        have hOa := HO.out.ext hXa
        have hrow : ∀ i, s.row = some i → w.heap.size + 2 ≤ i ∧ i < wr.heap.size := fun i hi => own_row HO.out.own hi
        have hra := (hr2.mono (G := In wr.heap.size w2.heap.size) fun i hi => hi).agree (Agree.alloc w2 (.cells #[.slice se.a (shOf h kid).es.length se.c, .slice sk2.a (shOf h kid).ks.length sk2.c] 119) (fun b hb => hb.2))
        have hsz2 : (w2.alloc (.cells #[.slice se.a (shOf h kid).es.length se.c, .slice sk2.a (shOf h kid).ks.length sk2.c] 119)).heap.size = w2.heap.size + 1 := by simp
        have hO3 : OS w3 (w.heap.size + 2) s3 (ds ++ [(shOf h kid, se, sk2)]) := OS.snoc hOa (F := In wr.heap.size w2.heap.size) hra (fun i hi => ⟨Nat.le_trans hbs hi.1, by rw [hsz2]; have := hi.2; omega, fun e => by have := hrow i e; have := hi.1; omega⟩) (by rw [HN.out]; exact hfew) (by rw [HN.out]; exact hown3) hwr3 (hs3.imp_right fun h => h.1)
        have hag : Agree (fun b => b < wr.heap.size ∧ s.row ≠ some b) wr w3 := (hXa.agree (F := fun b => b < wr.heap.size ∧ s.row ≠ some b) fun b hb => hb.1).trans (hwr3.agree (fun i hi => Nat.lt_of_lt_of_le hi.1 hXa.size) (fun k hk e => e.2 hk))
        have hR3 : Blk w3 w.heap.size 119 #[.slice none 0 0, .slice none 0 0] := HR.out.agree hag ⟨HR.out.lt, fun e => by have := hrow _ e; omega⟩
        have hS3 : Blk w3 (w.heap.size + 1) 119 #[.slice none 0 0, .slice s.a n s.c] := HS.out.agree hag ⟨lS, hSn⟩
        have hE3 : Ext w w3 := (HX.out.trans hXa).wr hwr3 (fun i hi => by have := hrow i hi; omega)
        have hR4 := hR3.far (p := ⟨w.heap.size + 1, 1, none⟩) (by simp) (.slice s3.a (n + 1) s3.c)
        have hS4 : Blk (w3.setCell ⟨w.heap.size + 1, 1, none⟩ (.slice s3.a (n + 1) s3.c)) (w.heap.size + 1) 119 #[.slice none 0 0, .slice s3.a (n + 1) s3.c] := hS3.set_ 1 _
        have hE4 := hE3.setCell (p := ⟨w.heap.size + 1, 1, none⟩) (show w.heap.size ≤ w.heap.size + 1 by omega) (.slice s3.a (n + 1) s3.c)
        have hO4 := hO3.agree (Agree.setCell w3 ⟨w.heap.size + 1, 1, none⟩ (.slice s3.a (n + 1) s3.c) (fun h => by have := h.1; simp at this)) (by simp)
        generalize w3.setCell ⟨w.heap.size + 1, 1, none⟩ (.slice s3.a (n + 1) s3.c) = W4 at *
        have H1 := Lib.hid hR4
        have H2 := Lib.hid hS4
        have H3 := Lib.hid hE4
        have H4 := Lib.hid hO4
        clear hXa hOa hrow hra hsz2 hO3 hag hR3 hS3 hE3 hR4 hS4 hE4 hO4 cS3 fS3 c3 f3 hs3 hwr3 hown3 hr2 hx2 cS fS' c2
        go_wp2_with fail
        go_roundw
        case rel =>
          have hdl := HDL.out
          have hnn := HN.out
          exact ⟨j + 1, s3, ds ++ [(shOf h kid, se, sk2)], hlt, by go_num, H3.out, H1.out, by rw [List.length_append, hnn]; exact H2.out, H4.out, by rw [List.map_append, HD.out, List.take_add_one, HK.out]; simp⟩
        case measure => simp [intOf]; omega
    · obtain rfl : j = t.2.length := by omega
      have c0 : wr.cell? ⟨w.heap.size, 0, none⟩ = some (.slice none 0 0) := hR.cell 0
      have c1 : wr.cell? ⟨w.heap.size, 1, none⟩ = some (.slice none 0 0) := hR.cell 1
      have d0 : wr.cell? ⟨w.heap.size + 1, 0, none⟩ = some (.slice none 0 0) := hS.cell 0
      have d1 : wr.cell? ⟨w.heap.size + 1, 1, none⟩ = some (.slice s.a ds.length s.c) := hS.cell 1
      have f0 := hR.frozen
      clear hx hR hS hO hD hdl
      go_wp2_with fail
      refine bodyPost_ret (v := .agg #[.slice none 0 0, .slice s.a ds.length s.c]) (by simp [results, Try.results75, go_sem, c0, c1, f0]) rfl ?_
      have e1 : shOf (h + 1) t = .mk [] (ds.map Prod.fst) := by rw [HD.out, List.take_length]; rfl
      have hE := (HX.out.setCell (p := ⟨w.heap.size, 0, none⟩) (Nat.le_refl _) (.slice none 0 0)).setCell (p := ⟨w.heap.size, 1, none⟩) (Nat.le_refl _) (.slice s.a ds.length s.c)
      refine ⟨Sl.none, s, by rw [e1]; simp [Sh.es, Sh.ks], hE, ?_⟩
      rw [e1]
      refine (HO.out.shape.agree ((Agree.setCell wr ⟨w.heap.size, 0, none⟩ _ ?_).trans (Agree.setCell _ ⟨w.heap.size, 1, none⟩ _ ?_))).mono fun i hi => ⟨by have := hi.1; omega, by have := hi.2; simpa using this⟩
      · intro h; have h1 : w.heap.size + 2 ≤ w.heap.size := h.1; omega
      · intro h; have h1 : w.heap.size + 2 ≤ w.heap.size := h.1; omega
theorem shape_any : ∀ (h : Nat) (t : PT h) (w : World), IsN w (Lt w.heap.size) h t → OkT h t → Calls Try.prog 75 #[ptr h t] w (ShapePost (shOf h t) w)
  | 0, t, w, hn, _ => shape_zero hn
  | h + 1, t, w, hn, ok => shape_succ (shape_any h) hn ok
end Go.Proofs.Ytpapoalgocmlaaa
