/- tree.with at inner nodes, by induction on the height. -/
import Derived.Test.YtpapoalgocmlaaaWith
import Derived.Test.YtpapoalgocmlaaaInsertN
namespace Go.Proofs.Ytpapoalgocmlaaa
open Go.RowKit
set_option linter.unusedVariables false
set_option linter.unusedSimpArgs false

theorem own_row {w : World} {base e size n : Nat} {s : Sl} {xs : List Value} (h : w.ownsRow base e size (.slice s.a n s.c) n xs) {b : Nat} (hb : s.row = some b) : base ≤ b ∧ b < w.heap.size :=
  h.lt b (by obtain ⟨a, c⟩ := s; cases a <;> simp_all [Value.ownBlock, Sl.row])
theorem own_block {w : World} {base e size n : Nat} {s : Sl} {xs : List Value} (h : w.ownsRow base e size (.slice s.a n s.c) n xs) (hn : 0 < n) : ∃ g cap, s = ⟨some ⟨g, 0, none⟩, cap⟩ ∧ base ≤ g ∧ n ≤ cap ∧ cap ≤ maxLen ∧ Filling w g e size cap := by
  rcases h.2 with ⟨hv, h0⟩ | ⟨g, cap, cur, hv, hbg, hg, hnc, hcm, hcs, -⟩
  · omega
  · simp only [Value.slice.injEq] at hv
    exact ⟨g, cap, by obtain ⟨a, c⟩ := s; simp_all, hbg, hnc, hcm, cur, hg, hcs⟩
/-- A cell put into an owned row of one-cell elements. -/
theorem own_set {w : World} {base e n g cap : Nat} {xs : List Value} (h : w.ownsRow base e 1 (.slice (some ⟨g, 0, none⟩) n cap) n xs) {i : Nat} (hi : i < n) (u : Value) : (w.setCell ⟨g, i, none⟩ u).ownsRow base e 1 (.slice (some ⟨g, 0, none⟩) n cap) n (xs.set i u) := by
  rcases h.2 with ⟨hv, h0⟩ | ⟨g', cap', cur, hv, hbg, hg, hnc, hcm, hcs, ht⟩
  · omega
  · simp only [Value.slice.injEq, Option.some.injEq, Addr.mk.injEq, and_true, true_and] at hv
    obtain ⟨rfl, rfl⟩ := hv
    refine ⟨by rw [List.length_set]; exact h.1, .inr ⟨g, cap, cur.setIfInBounds i u, rfl, hbg, Blk.set_ (show Blk w g e cur from hg) i u, hnc, hcm, by rw [Array.size_setIfInBounds]; exact hcs, ?_⟩⟩
    rw [Array.toList_setIfInBounds, List.take_set, ht]

theorem size_le8 : ∀ {h : Nat} {t : PT h}, OkT h t → size h t ≤ 8
  | 0, _, ok => ok
  | _ + 1, _, ok => ok.2.1
/-- What the kids come to. -/
theorem kids_ents {B : Nat} {k : ByteArray} {v : Val} {h : Nat} {t : PT (h + 1)} {kid : PT h} {rs : List (PT h)} (hk : t.2[whichK h t.2 k]? = some kid) (hr : WithR B k v h kid rs) (ok : OkT (h + 1) t) (hs : Sorted (ents (h + 1) t)) :
    (t.2.take (whichK h t.2 k) ++ rs ++ t.2.drop (whichK h t.2 k + 1)).flatMap (ents h) = insE (ents (h + 1) t) k v := by
  have hp := kids_pos ok
  obtain ⟨kid', hk', hA, hC⟩ := which_split (h := h) (ks := t.2) hs hp (by have := ok.1; omega) k
  rw [hk] at hk'
  simp only [Option.some.injEq] at hk'
  subst hk'
  have hm := List.mem_of_getElem? hk
  have ih := WithR.ents hr (ok.2.2 kid hm).1 (kid_sorted hs kid hm)
  rw [List.flatMap_append, List.flatMap_append, ih]
  show _ = insE (t.2.flatMap (Proofs.Ytpapoalgocmlaaa.ents h)) k v
  conv => rhs; rw [take_mid hk]
  rw [List.flatMap_append, List.flatMap_cons, insE_app hA, insE_stop hC, List.append_assoc]
theorem kids_ok {B : Nat} {k : ByteArray} {v : Val} {h : Nat} {t : PT (h + 1)} {kid : PT h} {rs : List (PT h)} (hk : t.2[whichK h t.2 k]? = some kid) (hr : WithR B k v h kid rs) (ok : OkT (h + 1) t) :
    ∀ u ∈ t.2.take (whichK h t.2 k) ++ rs ++ t.2.drop (whichK h t.2 k + 1), OkT h u ∧ 4 ≤ size h u := by
  have hm := List.mem_of_getElem? hk
  obtain ⟨i1, i2⟩ := WithR.ok hr (ok.2.2 kid hm).1
  have hk4 := (ok.2.2 kid hm).2
  intro u hu
  rcases List.mem_append.1 hu with hu | hu
  · rcases List.mem_append.1 hu with hu | hu
    · exact ok.2.2 u (List.mem_of_mem_take hu)
    · exact ⟨(i1 u hu).1, (i1 u hu).2.2 hk4⟩
  · exact ok.2.2 u (List.mem_of_mem_drop hu)

/-- What with hands back. -/
def WithPost (F : Nat → Prop) (h : Nat) (t : PT h) (k : ByteArray) (v : Val) (w : World) (e : Ending) (w' : World) : Prop :=
  ∃ ts : List (PT h), e = two h ts ∧ WithR w.heap.size k v h t ts ∧ (∀ u ∈ ts, IsN w' (Up F w w') h u) ∧ Ext w w'
/-- The same, the two results apart. -/
def WithPost' (F : Nat → Prop) (h : Nat) (t : PT h) (k : ByteArray) (v : Val) (w : World) (e : Ending) (w' : World) : Prop :=
  ∃ (a : PT h) (r : Value) (rs : List (PT h)), e = .returned (.tuple #[ptr h a, r]) ∧ ((r = .pointer none ∧ rs = [a]) ∨ ∃ b, r = ptr h b ∧ rs = [a, b]) ∧ WithR w.heap.size k v h t rs ∧ (∀ u ∈ rs, IsN w' (Up F w w') h u) ∧ Ext w w'
theorem WithPost.apart {F : Nat → Prop} {h : Nat} {t : PT h} {k : ByteArray} {v : Val} {w : World} {e : Ending} {w' : World} (p : WithPost F h t k v w e w') : WithPost' F h t k v w e w' := by
  obtain ⟨ts, rfl, h1, h2, h3⟩ := p
  rcases h1.two with ⟨a, rfl⟩ | ⟨a, b, rfl⟩
  · exact ⟨a, _, _, rfl, .inl ⟨rfl, rfl⟩, h1, h2, h3⟩
  · exact ⟨a, _, _, rfl, .inr ⟨b, rfl, rfl⟩, h1, h2, h3⟩

theorem with_zero {w : World} {F : Nat → Prop} (hF : ∀ b, F b → b < w.heap.size) {t : PT 0} (hn : IsN w F 0 t) (ok : OkT 0 t) (hs : Sorted (ents 0 t)) {k : ByteArray} {v : Val} {sl so : Sl} (hv : RV w (Lt w.heap.size) v sl so) (hkm : k.size ≤ maxLen) :
    Calls Try.prog 91 #[ptr 0 t, aggE k v sl so] w (WithPost F 0 t k v w) := by
  have hn' : IsN w (Lt w.heap.size) 0 t := hn.mono hF
  refine (with_leaf (fun W hW => height_any (hn'.ext hW)) (fun W hW => entries_any (hn'.ext hW)) hs ok hv hkm).mono ?_
  rintro e w' ⟨ts, rfl, h1, h2, h3⟩
  exact ⟨ts, rfl, ⟨h1, fun u hu => (h2 u hu).1⟩, fun u hu => (h2 u hu).2.mono fun i hi => .inr hi, h3⟩

theorem two_cases1 {n : Nat} {L : List (PT n)} {ts : List (PT (n + 1))} (h : ts.map Prod.snd = chunk L) : (∃ a, ts = [a]) ∨ ∃ a b, ts = [a, b] := by
  rcases chunk_two L with ⟨a, ha⟩ | ⟨a, b, ha⟩ <;> rw [ha] at h
  · obtain ⟨x, hx, -⟩ := one1 h; exact .inl ⟨x, hx⟩
  · obtain ⟨x, y, hx, -⟩ := two1 h; exact .inr ⟨x, y, hx⟩
theorem with_end {w w3 w' : World} {F : Nat → Prop} {h : Nat} {t : PT (h + 1)} {k : ByteArray} {v : Val} {i : Nat} {kid : PT h} {rs : List (PT h)} {B : Nat} (hE : Ext w w3) (hi : whichK h t.2 k = i) (hkid : t.2[whichK h t.2 k]? = some kid) (hB : w.heap.size ≤ B) (hwr : WithR B k v h kid rs)
    {ts : List (PT (h + 1))} (h1 : ts.map Prod.snd = chunk (t.2.take i ++ rs ++ t.2.drop (i + 1))) (h2 : ∀ u ∈ ts, w3.heap.size ≤ addr (h + 1) u ∧ IsN w' (Up (Up F w w3) w3 w') (h + 1) u) (h3 : Ext w3 w') : WithPost F (h + 1) t k v w (two (h + 1) ts) w' := by
  subst hi
  refine ⟨ts, rfl, ⟨kid, rs, hkid, hwr.mono hB, h1, fun u hu => Nat.le_trans hE.size (h2 u hu).1⟩, fun u hu => (h2 u hu).2.mono fun i hi => ?_, hE.trans h3⟩
  rcases hi with (hi | hi) | hi
  · exact .inl hi
  · exact .inr ⟨hi.1, Nat.lt_of_lt_of_le hi.2 h3.size⟩
  · exact .inr ⟨Nat.le_trans hE.size hi.1, hi.2⟩
theorem ptrs_set {h : Nat} {ks : List (PT h)} {i : Nat} (hi : i < ks.length) (a : PT h) : (ptrs h ks).set i (ptr h a) = ptrs h (ks.take i ++ [a] ++ ks.drop (i + 1)) := by
  rw [ptrs, ← List.map_set, List.set_eq_take_append_cons_drop, if_pos hi, List.append_assoc]; rfl
theorem ptrs_ins {h : Nat} {ks : List (PT h)} {i : Nat} (hi : i < ks.length) (a b : PT h) : (ptrs h (ks.take i ++ [a] ++ ks.drop (i + 1))).take ((i + 1) * 1) ++ [ptr h b] ++ (ptrs h (ks.take i ++ [a] ++ ks.drop (i + 1))).drop ((i + 1) * 1) = ptrs h (ks.take i ++ [a, b] ++ ks.drop (i + 1)) := by
  have hl : (ptrs h (ks.take i ++ [a])).length = i + 1 := by simp [ptrs]; omega
  have e : ptrs h (ks.take i ++ [a] ++ ks.drop (i + 1)) = ptrs h (ks.take i ++ [a]) ++ ptrs h (ks.drop (i + 1)) := by simp [ptrs]
  rw [e, Nat.mul_one, ← hl, List.take_left, List.drop_left, hl]
  simp [ptrs]

set_option maxRecDepth 100000 in
set_option maxHeartbeats 1000000 in
theorem with_succ {h : Nat} {k : ByteArray} {v : Val} {sl so : Sl} (hkm : k.size ≤ maxLen)
    (ih : ∀ (w : World) (F : Nat → Prop) (t : PT h), (∀ b, F b → b < w.heap.size) → IsN w F h t → OkT h t → Sorted (ents h t) → (ents h t).length ≤ 1000000 → RV w (Lt w.heap.size) v sl so → Calls Try.prog 91 #[ptr h t, aggE k v sl so] w (WithPost F h t k v w))
    {w : World} {F : Nat → Prop} {t : PT (h + 1)} (hF : ∀ b, F b → b < w.heap.size) (hn : IsN w F (h + 1) t) (ok : OkT (h + 1) t) (hs : Sorted (ents (h + 1) t)) (hc : (ents (h + 1) t).length ≤ 1000000) (hv : RV w (Lt w.heap.size) v sl so) :
    Calls Try.prog 91 #[ptr (h + 1) t, aggE k v sl so] w (WithPost F (h + 1) t k v w) := by
  have hpos := kids_pos ok
  have hh : h + 1 < 1000000 := Nat.lt_of_lt_of_le (height_lt (h + 1) t ok (by have := ok.1; show 1 ≤ t.2.length; omega)) hc
  obtain ⟨kid, hkid, hA, hC⟩ := which_split (h := h) (ks := t.2) hs hpos (by have := ok.1; omega) k
  have hkm' := List.mem_of_getElem? hkid
  have hil := (List.getElem?_eq_some_iff.1 hkid).1
  have hlen2 := ok.1
  have hlen8 := ok.2.1
  have hks : ∀ x ∈ t.2, IsN w F h x := hn.2.choose_spec.2.2
  have hkc : (ents h kid).length ≤ 1000000 := Nat.le_trans (by
    show _ ≤ (t.2.flatMap (ents h)).length
    rw [take_mid hkid]; simp only [List.flatMap_append, List.flatMap_cons, List.length_append]; omega) hc
  have hih : ∀ W, Ext w W → Calls Try.prog 91 #[ptr h kid, aggE k v sl so] W (WithPost' F h kid k v W) := fun W hW =>
    (ih W F kid (fun b hb => Nat.lt_of_lt_of_le (hF b hb) hW.size) ((hks kid hkm').agree (hW.agree hF)) (ok.2.2 kid hkm').1 (kid_sorted hs kid hkm') hkc ((hv.agree (hW.agree fun _ h => h)).mono fun i hi => Nat.lt_of_lt_of_le hi hW.size)).mono fun _ _ p => p.apart
  have HF := Lib.hid hF
  have HN := Lib.hid hn
  have HOK := Lib.hid ok
  have HS := Lib.hid hs
  have HC := Lib.hid hc
  have HP := Lib.hid hpos
  have HIH := Lib.hid hih
  have HKS := Lib.hid hks
  have HKID := Lib.hid hkid
  have hnz : (((h : Int) + 1) == 0) = false := beq_eq_false_iff_ne.2 (by omega)
  clear hF hn ok hs hc hpos hih hks hkid hA hC hv ih hkc
  go_enter Try.func91, Try.ntmps91
  go_wp2_with fail
  have hx0 : Ext w (w.alloc (.cells #[.string k, .int .i64 v.kind, .bool v.b, .int .i64 v.i, .string v.t, .slice sl.a v.l.length sl.c, .slice so.a v.ok.length so.c] 56)) := (Ext.refl w).alloc _ _
  have hb0 := Blk.new w 56 #[.string k, .int .i64 v.kind, .bool v.b, .int .i64 v.i, .string v.t, .slice sl.a v.l.length sl.c, .slice so.a v.ok.length so.c]
  generalize hW0 : World.alloc _ _ = W0 at *
  have hz0 : W0.heap.size = w.heap.size + 1 := by rw [← hW0]; simp
  clear hW0
  have hnW : IsN W0 F (h + 1) t := HN.out.agree (hx0.agree HF.out)
  refine (height_any hnW).mono ?_
  rintro e w1 ⟨rfl, rfl⟩
  have hkc := kids_any hnW (by omega)
  clear hnW
  go_wp2_with fail
  refine hkc.mono ?_
  rintro e w1 ⟨s', rfl, hown, hx1⟩
  have hX1 := hx0.trans hx1
  have hb1 := hb0.ext hx1
  obtain ⟨c0, c1, c2, c3, c4, c5, c6⟩ := hb1.c7
  have hrd : Rd w1 (Lt w1.heap.size) 1 s' t.2.length (ptrs h t.2) := (Rd.of_own hown).mono fun i hi => hi.2
  have hwh := which_any hrd (fun x hx => (HKS.out x hx).agree (hX1.agree HF.out)) (fun b hb => Nat.lt_of_lt_of_le (HF.out b hb) hX1.size) HP.out k HS.out (by omega)
  obtain ⟨i, hi⟩ : ∃ i, whichK h t.2 k = i := ⟨_, rfl⟩
  rw [hi] at hwh hil
  have HI := Lib.hid hi
  have HWH := Lib.hid hwh
  have HO1 := Lib.hid hown
  have HB1 := Lib.hid hb1
  have HX1 := Lib.hid hX1
  have HX01 := Lib.hid hx1
  clear hi hwh hown hb1 hX1 hrd hkc hb0 hx0 hx1
  go_wp2_with fail
  refine HWH.out.mono ?_
  rintro e w2 ⟨rfl, hx2⟩
  clear c0 c1 c2 c3 c4 c5 c6
  obtain ⟨d0, d1, d2, d3, d4, d5, d6⟩ := (HB1.out.ext hx2).c7
  have hbl := HB1.out.lt
  have hbl2 := (HB1.out.ext hx2).lt
  have hX2 := HX1.out.trans hx2
  obtain ⟨g, cap, rfl, hbg, hnc, hcm, hfil⟩ := own_block HO1.out (by omega)
  have ho2 : w2.ownsRow W0.heap.size 28 1 (.slice (some ⟨g, 0, none⟩) t.2.length cap) t.2.length (ptrs h t.2) := own_agree HO1.out (hx2.agree (F := Lt w1.heap.size) fun _ h => h) fun b hb => (own_row HO1.out hb).2
  have hkp : w2.cell? ⟨g, i, none⟩ = some (ptr h kid) := by
    have := ho2.cells (g := g) rfl i (ptr h kid) (by rw [ptrs, List.getElem?_map, ← HI.out, HKID.out]; rfl)
    rwa [add_at, Nat.zero_add] at this
  have hil' : (i : Int) < (t.2.length : Int) := by omega
  have HO2 := Lib.hid ho2
  have HX2 := Lib.hid hX2
  have hg2 : g < w2.heap.size := (own_row (s := ⟨some ⟨g, 0, none⟩, cap⟩) ho2 rfl).2
  have hfz : ∀ o, w2.frozen? ⟨g, o, none⟩ = false := fun o => by rw [hx2.frozen hfil.lt]; exact hfil.frozen o
  clear hx2 ho2 hX2 hfil
  go_wp2_with fail
  go_region_held3 (fun w' => w'.cell? ⟨g, i, none⟩ = some (ptr h kid) ∧ w'.cell? ⟨w.heap.size, 0, none⟩ = some (.string k) ∧ w'.cell? ⟨w.heap.size, 1, none⟩ = some (.int .i64 v.kind) ∧ w'.cell? ⟨w.heap.size, 2, none⟩ = some (.bool v.b) ∧ w'.cell? ⟨w.heap.size, 3, none⟩ = some (.int .i64 v.i) ∧ w'.cell? ⟨w.heap.size, 4, none⟩ = some (.string v.t) ∧ w'.cell? ⟨w.heap.size, 5, none⟩ = some (.slice sl.a v.l.length sl.c) ∧ w'.cell? ⟨w.heap.size, 6, none⟩ = some (.slice so.a v.ok.length so.c)) (go_keep)
    ((go_at_call 91; refine (HIH.out _ HX2.out.drew).mono ?_; rintro e w3 ⟨a, r, rs, rfl, hr, hwr, hwn, hx3⟩; have HR := Lib.hid hr; have HWR := Lib.hid hwr; have HWN := Lib.hid hwn; clear hr hwr hwn; have ho3 : (∀ b o, b < w2.heap.size → w3.cell? ⟨b, o, none⟩ = w2.cell? ⟨b, o, none⟩) := fun b o hb => hx3.cell (show b < w2.drew.heap.size from hb)))
  have hX23 : Ext w2 w3 := ((Ext.refl w2).drew).trans hx3
  have hg3 : g < w3.heap.size := Nat.lt_of_lt_of_le hg2 hX23.size
  have hkp3 := (hX23.cell (o := i) hg2).trans hkp
  have hfz3 : w3.frozen? ⟨g, i, none⟩ = false := (hX23.frozen hg2).trans (hfz i)
  have HX23 := Lib.hid hX23
  have HX2D := Lib.hid hx3
  clear hX23 hx3 hkp hfz ho3 d0 d1 d2 d3 d4 d5 d6
  have ho3 : w3.ownsRow W0.heap.size 28 1 (.slice (some ⟨g, 0, none⟩) t.2.length cap) t.2.length (ptrs h t.2) := own_agree (s := ⟨some ⟨g, 0, none⟩, cap⟩) HO2.out (HX23.out.agree (F := Lt w2.heap.size) fun _ h => h) fun b hb => (own_row (s := ⟨some ⟨g, 0, none⟩, cap⟩) HO2.out hb).2
  have ho4 := own_set ho3 hil (ptr h a)
  rw [ptrs_set hil] at ho4
  have hX4 : Ext w (w3.setCell ⟨g, i, none⟩ (ptr h a)) := (HX2.out.trans HX23.out).setCell (p := ⟨g, i, none⟩) (by show w.heap.size ≤ g; omega) _
  have hag4 : Agree (Up F w2.drew w3) w3 (w3.setCell ⟨g, i, none⟩ (ptr h a)) := Agree.setCell w3 ⟨g, i, none⟩ _ (by
    rintro (hf | hf)
    · have : g < w.heap.size := HF.out g hf
      omega
    · have : w2.heap.size ≤ g := hf.1
      omega)
  have hkids : ∀ W, Ext w W → Agree (Up F w2.drew w3) w3 W → w3.heap.size ≤ W.heap.size → Kids W (Up F w W) h (t.2.take i ++ rs ++ t.2.drop (i + 1)) := fun W hW hag hsz => by
    have hke := kids_ents HKID.out HWR.out HOK.out HS.out
    have hko := kids_ok HKID.out HWR.out HOK.out
    rw [HI.out] at hke hko
    have hso : Sorted ((t.2.take i ++ rs ++ t.2.drop (i + 1)).flatMap (ents h)) := by rw [hke]; exact insE_sorted HS.out k v
    have hps : ∀ x ∈ t.2.take i ++ rs ++ t.2.drop (i + 1), 0 < (ents h x).length := fun x hx => ents_pos h x (hko x hx).1 (by have := (hko x hx).2; omega)
    refine ⟨fun b hb => hb.elim (fun h => Nat.lt_of_lt_of_le (HF.out b h) hW.size) fun h => h.2, fun x hx => ?_, rising_of hso hps, hps, fun x hx => by have := size_le8 (hko x hx).1; omega, by
      have := insE_len (ents (h + 1) t) k v
      have hcc := HC.out
      unfold cnt; rw [hke]; omega, by omega⟩
    rcases List.mem_append.1 hx with hx | hx
    · rcases List.mem_append.1 hx with hx | hx
      · exact ((HKS.out x (List.mem_of_mem_take hx)).agree (hW.agree HF.out)).mono fun _ h => .inl h
      · exact ((HWN.out x hx).agree hag).mono fun b hb => hb.elim .inl fun h => .inr ⟨Nat.le_trans HX2.out.size h.1, Nat.lt_of_lt_of_le h.2 hsz⟩
    · exact ((HKS.out x (List.mem_of_mem_drop hx)).agree (hW.agree HF.out)).mono fun _ h => .inl h
  have HK := Lib.hid hkids
  have HO4 := Lib.hid ho4
  have HX4 := Lib.hid hX4
  have HA4 := Lib.hid hag4
  have hB2 : w.heap.size ≤ w2.drew.heap.size := HX2.out.size
  have hgw : W0.heap.size ≤ w3.heap.size := by omega
  have HB2 := Lib.hid hB2
  clear ho3 ho4 hX4 hag4 hkids hB2
  rcases HR.out with ⟨rfl, rfl⟩ | ⟨b, rfl, rfl⟩
  · have hlen : (t.2.take i ++ [a] ++ t.2.drop (i + 1)).length = t.2.length := by simp; omega
    have hsp := splitP_any (w := w3.setCell ⟨g, i, none⟩ (ptr h a)) (s := ⟨some ⟨g, 0, none⟩, cap⟩) (by rw [hlen]; exact (Rd.of_own HO4.out).mono fun i hi => hi.2) (HK.out _ HX4.out HA4.out (by simp)) (by omega) (by omega)
    rw [hlen] at hsp
    have HSP := Lib.hid hsp
    clear hsp hlen
    go_wp2_with fail
    refine HSP.out.mono ?_
    rintro e w5 ⟨ts, rfl, h1, h2, h3⟩
    have H2 := Lib.hid h2
    have H1 := Lib.hid h1
    clear h2
    rcases two_cases1 h1 with ⟨a', rfl⟩ | ⟨a', b', rfl⟩
    all_goals
      clear h1
      simp only [two]
      go_wp2_with fail
      go_ret2
      exact with_end HX4.out HI.out HKID.out HB2.out HWR.out H1.out H2.out h3
  · have hw1 : IntKind.i64.wrap ((i : Int) + 1) = (i : Int) + 1 := by rw [IntKind.wrap_i64]; omega
    have hlen : (t.2.take i ++ [a] ++ t.2.drop (i + 1)).length = t.2.length := by simp; omega
    have hlen2' : (t.2.take i ++ [a, b] ++ t.2.drop (i + 1)).length = t.2.length + 1 := by simp; omega
    have hE5 : Ext (w3.setCell ⟨g, i, none⟩ (ptr h a)) ((w3.setCell ⟨g, i, none⟩ (ptr h a)).alloc (.cells #[ptr h b] 28)) := (Ext.refl _).alloc _ _
    have hb5 : Blk ((w3.setCell ⟨g, i, none⟩ (ptr h a)).alloc (.cells #[ptr h b] 28)) w3.heap.size 28 [ptr h b].toArray := by
      have := Blk.new (w3.setCell ⟨g, i, none⟩ (ptr h a)) 28 #[ptr h b]
      rwa [World.size_setCell] at this
    go_wp2_with fail
    change Calls _ _ _ ((w3.setCell ⟨g, i, none⟩ (ptr h a)).alloc (.cells #[ptr h b] 28)) _
    have ho5 : ((w3.setCell ⟨g, i, none⟩ (ptr h a)).alloc (.cells #[ptr h b] 28)).ownsRow W0.heap.size 28 1 (.slice (some ⟨g, 0, none⟩) t.2.length cap) t.2.length (ptrs h (t.2.take i ++ [a] ++ t.2.drop (i + 1))) := own_agree (s := ⟨some ⟨g, 0, none⟩, cap⟩) HO4.out (hE5.agree (F := Lt w3.heap.size) fun i hi => by rw [World.size_setCell]; exact hi) fun b hb => by
      have := (own_row (s := ⟨some ⟨g, 0, none⟩, cap⟩) HO4.out hb).2
      rwa [World.size_setCell] at this
    have hag5 : Agree (Up F w2.drew w3) w3 ((w3.setCell ⟨g, i, none⟩ (ptr h a)).alloc (.cells #[ptr h b] 28)) := HA4.out.trans (hE5.agree fun j hj => by rw [World.size_setCell]; exact hj.elim (fun hh => Nat.lt_of_lt_of_le (HF.out j hh) (by have := HX2.out.size; have := HX23.out.size; omega)) fun hh => hh.2)
    have hX5 := HX4.out.trans hE5
    have hz5 : ((w3.setCell ⟨g, i, none⟩ (ptr h a)).alloc (.cells #[ptr h b] 28)).heap.size = w3.heap.size + 1 := by simp
    generalize (w3.setCell ⟨g, i, none⟩ (ptr h a)).alloc (.cells #[ptr h b] 28) = W5 at *
    have hins := insN_any (w := W5) (base := W0.heap.size) (n := t.2.length) (i := i + 1) (s := ⟨some ⟨g, 0, none⟩, cap⟩) (xs := ptrs h (t.2.take i ++ [a] ++ t.2.drop (i + 1))) (ys := [ptr h b]) (vb := w3.heap.size) ho5 (by omega) (by omega) (by omega) rfl hb5 (by simp [Sl.row]; omega) (by simp [Value.oneCell']) (ptrs_one _ _)
    have H5 := Lib.hid hX5
    have HG5 := Lib.hid hag5
    clear hX5 hag5 hb5 ho5 hE5
    refine hins.mono ?_
    rintro e w6 ⟨s6, rfl, hown6, hwr6, -⟩
    rw [ptrs_ins hil] at hown6
    have hX6 : Ext w w6 := H5.out.wr hwr6 fun j hj => by simp [Sl.row] at hj; omega
    have hag6 : Agree (Up F w2.drew w3) w3 w6 := HG5.out.trans (hwr6.agree (fun j hj => by rw [hz5]; exact hj.elim (fun hh => Nat.lt_of_lt_of_le (HF.out j hh) (by have := HX2.out.size; have := HX23.out.size; omega)) fun hh => Nat.lt_succ_of_lt hh.2) (fun j hj => by
      simp [Sl.row] at hj; subst hj
      rintro (hf | hf)
      · have : g < w.heap.size := HF.out g hf
        omega
      · have : w2.heap.size ≤ g := hf.1
        omega))
    have hsp := splitP_any (w := w6) (s := s6) (by rw [hlen2']; exact (Rd.of_own hown6).mono fun i hi => hi.2) (HK.out _ hX6 hag6 (by have := hwr6.grown.size; omega)) (by omega) (by omega)
    rw [hlen2'] at hsp
    have HSP := Lib.hid hsp
    have HX6 := Lib.hid hX6
    clear hsp hlen hlen2' hX6 hag6 hown6 hwr6 hins
    go_wp2_with fail
    refine HSP.out.mono ?_
    rintro e w7 ⟨ts, rfl, h1, h2, h3⟩
    have H2 := Lib.hid h2
    have H1 := Lib.hid h1
    clear h2
    rcases two_cases1 h1 with ⟨a', rfl⟩ | ⟨a', b', rfl⟩
    all_goals
      clear h1
      simp only [two]
      go_wp2_with fail
      go_ret2
      exact with_end HX6.out HI.out HKID.out HB2.out HWR.out H1.out H2.out h3
end Go.Proofs.Ytpapoalgocmlaaa
