/- What the theorem needs of the texts With2, Put, Log, Trees, Get, Gather, Flat06, Map7, Step, Put7, Text02, Held, Cmp02, BuiltP, Build, DelT, Mend2, Is, TreeOwn, Do07, Held2, PlaysI, FreshP, RangeG: no condition of its own. -/
import Derived.Deep.RegionLaw
import Derived.Deep.RegionHeld3
import Derived.Lib.SliceRun
import Derived.Laws.IdiomStrings
import Derived.WalkArith
import Derived.RangeFuncNested
import Derived.Test.YtohajcflklejjaaGreatPqa
import Derived.Test.YtohajcflklejjaaGreatPqb
namespace Go.Proofs.YtohajcflklejjaaGreat
open Go.RowKit
set_option linter.unusedVariables false
set_option linter.unusedSimpArgs false
theorem own_row {w : World} {base e size n : Nat} {s : Sl} {xs : List Value} (h : w.ownsRow base e size (.slice s.a n s.c) n xs) {b : Nat} (hb : s.row = some b) : base ≤ b ∧ b < w.heap.size :=
  h.lt b (by obtain ⟨a, c⟩ := s; cases a <;> simp_all [Value.ownBlock, Sl.row])
theorem own_block {w : World} {base e size n : Nat} {s : Sl} {xs : List Value} (h : w.ownsRow base e size (.slice s.a n s.c) n xs) (hn : 0 < n) : ∃ g cap, s = ⟨some ⟨g, 0, none⟩, cap⟩ ∧ base ≤ g ∧ n ≤ cap ∧ cap ≤ maxLen ∧ Filling w g e size cap := by
  rcases h.2 with ⟨hv, h0⟩ | ⟨g, cap, cur, hv, hbg, hg, hnc, hcm, hcs, -⟩
  · omega
  · simp only [Value.slice.injEq] at hv
    exact ⟨g, cap, by obtain ⟨a, c⟩ := s; simp_all, hbg, hnc, hcm, cur, hg, hcs⟩
theorem own_set {w : World} {base e n g cap : Nat} {xs : List Value} (h : w.ownsRow base e 1 (.slice (some ⟨g, 0, none⟩) n cap) n xs) {i : Nat} (hi : i < n) (u : Value) : (w.setCell ⟨g, i, none⟩ u).ownsRow base e 1 (.slice (some ⟨g, 0, none⟩) n cap) n (xs.set i u) := by
  rcases h.2 with ⟨hv, h0⟩ | ⟨g', cap', cur, hv, hbg, hg, hnc, hcm, hcs, ht⟩
  · omega
  · simp only [Value.slice.injEq, Option.some.injEq, Addr.mk.injEq, and_true, true_and] at hv
    obtain ⟨rfl, rfl⟩ := hv
    refine ⟨by rw [List.length_set]; exact h.1, .inr ⟨g, cap, cur.setIfInBounds i u, rfl, hbg, Blk.set_ (show Blk w g e cur from hg) i u, hnc, hcm, by rw [Array.size_setIfInBounds]; exact hcs, ?_⟩⟩
    rw [Array.toList_setIfInBounds, List.take_set, ht]
theorem size_le8 : ∀ {h : Nat} {t : PT h}, OkT h t → size h t ≤ 8
  | 0, _, ok => ok
  | _ + 1, _, ok => ok.2.1
theorem kids_ents {B : Nat} {k : ByteArray} {v : Val} {h : Nat} {t : PT (h + 1)} {kid : PT h} {rs : List (PT h)} (hk : t.2[whichK h t.2 k]? = some kid) (hr : WithR B k v h kid rs) (ok : OkT (h + 1) t) (hs : Sorted (ents (h + 1) t)) :
    (t.2.take (whichK h t.2 k) ++ rs ++ t.2.drop (whichK h t.2 k + 1)).flatMap (ents h) = insE (ents (h + 1) t) k v := by
  have hp := kids_pos ok
  obtain ⟨kid', hk', hA, hC⟩ := which_split (h := h) (ks := t.2) hs hp (by have := ok.1; omega) k
  rw [hk] at hk'
  simp only [Option.some.injEq] at hk'
  subst hk'
  have hm := List.mem_of_getElem? hk
  have ih := WithR.ents hr (ok.2.2 kid hm).1 (kid_sorted hs kid hm)
  rw [List.flatMap_append, List.flatMap_append, ih]
  show _ = insE (t.2.flatMap (Proofs.YtohajcflklejjaaGreat.ents h)) k v
  conv => rhs; rw [take_mid hk]
  rw [List.flatMap_append, List.flatMap_cons, insE_app hA, insE_stop hC, List.append_assoc]
theorem kids_ok {B : Nat} {k : ByteArray} {v : Val} {h : Nat} {t : PT (h + 1)} {kid : PT h} {rs : List (PT h)} (hk : t.2[whichK h t.2 k]? = some kid) (hr : WithR B k v h kid rs) (ok : OkT (h + 1) t) :
    ∀ u ∈ t.2.take (whichK h t.2 k) ++ rs ++ t.2.drop (whichK h t.2 k + 1), OkT h u ∧ 4 ≤ size h u := by
  have hm := List.mem_of_getElem? hk
  obtain ⟨i1, i2⟩ := WithR.ok hr (ok.2.2 kid hm).1
  have hk4 := (ok.2.2 kid hm).2
  intro u hu
  rcases List.mem_append.1 hu with hu | hu
  · rcases List.mem_append.1 hu with hu | hu
    · exact ok.2.2 u (List.mem_of_mem_take hu)
    · exact ⟨(i1 u hu).1, (i1 u hu).2.2 hk4⟩
  · exact ok.2.2 u (List.mem_of_mem_drop hu)
def WithPost (F : Nat → Prop) (h : Nat) (t : PT h) (k : ByteArray) (v : Val) (w : World) (e : Ending) (w' : World) : Prop :=
  ∃ ts : List (PT h), e = two h ts ∧ WithR w.heap.size k v h t ts ∧ (∀ u ∈ ts, IsN w' (Up F w w') h u) ∧ Ext w w'
def WithPost' (F : Nat → Prop) (h : Nat) (t : PT h) (k : ByteArray) (v : Val) (w : World) (e : Ending) (w' : World) : Prop :=
  ∃ (a : PT h) (r : Value) (rs : List (PT h)), e = .returned (.tuple #[ptr h a, r]) ∧ ((r = .pointer none ∧ rs = [a]) ∨ ∃ b, r = ptr h b ∧ rs = [a, b]) ∧ WithR w.heap.size k v h t rs ∧ (∀ u ∈ rs, IsN w' (Up F w w') h u) ∧ Ext w w'
theorem WithPost.apart {F : Nat → Prop} {h : Nat} {t : PT h} {k : ByteArray} {v : Val} {w : World} {e : Ending} {w' : World} (p : WithPost F h t k v w e w') : WithPost' F h t k v w e w' := by
  obtain ⟨ts, rfl, h1, h2, h3⟩ := p
  rcases h1.two with ⟨a, rfl⟩ | ⟨a, b, rfl⟩
  · exact ⟨a, _, _, rfl, .inl ⟨rfl, rfl⟩, h1, h2, h3⟩
  · exact ⟨a, _, _, rfl, .inr ⟨b, rfl, rfl⟩, h1, h2, h3⟩
theorem with_zero {w : World} {F : Nat → Prop} (hF : ∀ b, F b → b < w.heap.size) {t : PT 0} (hn : IsN w F 0 t) (ok : OkT 0 t) (hs : Sorted (ents 0 t)) {k : ByteArray} {v : Val} {sl so : Sl} (hv : RV w (Lt w.heap.size) v sl so) (hkm : k.size ≤ maxLen) :
    Calls Tryz.prog 66 #[ptr 0 t, aggE k v sl so] w (WithPost F 0 t k v w) := by
  have hn' : IsN w (Lt w.heap.size) 0 t := hn.mono hF
  refine (with_leaf (fun W hW => height_any (hn'.ext hW)) (fun W hW => entries_any (hn'.ext hW)) hs ok hv hkm).mono ?_
  rintro e w' ⟨ts, rfl, h1, h2, h3⟩
  exact ⟨ts, rfl, ⟨h1, fun u hu => (h2 u hu).1⟩, fun u hu => (h2 u hu).2.mono fun i hi => .inr hi, h3⟩
theorem two_cases1 {n : Nat} {L : List (PT n)} {ts : List (PT (n + 1))} (h : ts.map Prod.snd = chunk L) : (∃ a, ts = [a]) ∨ ∃ a b, ts = [a, b] := by
  rcases chunk_two L with ⟨a, ha⟩ | ⟨a, b, ha⟩ <;> rw [ha] at h
  · obtain ⟨x, hx, -⟩ := one1 h; exact .inl ⟨x, hx⟩
  · obtain ⟨x, y, hx, -⟩ := two1 h; exact .inr ⟨x, y, hx⟩
theorem with_end {w w3 w' : World} {F : Nat → Prop} {h : Nat} {t : PT (h + 1)} {k : ByteArray} {v : Val} {i : Nat} {kid : PT h} {rs : List (PT h)} {B : Nat} (hE : Ext w w3) (hi : whichK h t.2 k = i) (hkid : t.2[whichK h t.2 k]? = some kid) (hB : w.heap.size ≤ B) (hwr : WithR B k v h kid rs)
    {ts : List (PT (h + 1))} (h1 : ts.map Prod.snd = chunk (t.2.take i ++ rs ++ t.2.drop (i + 1))) (h2 : ∀ u ∈ ts, w3.heap.size ≤ addr (h + 1) u ∧ IsN w' (Up (Up F w w3) w3 w') (h + 1) u) (h3 : Ext w3 w') : WithPost F (h + 1) t k v w (two (h + 1) ts) w' := by
  subst hi
  refine ⟨ts, rfl, ⟨kid, rs, hkid, hwr.mono hB, h1, fun u hu => Nat.le_trans hE.size (h2 u hu).1⟩, fun u hu => (h2 u hu).2.mono fun i hi => ?_, hE.trans h3⟩
  rcases hi with (hi | hi) | hi
  · exact .inl hi
  · exact .inr ⟨hi.1, Nat.lt_of_lt_of_le hi.2 h3.size⟩
  · exact .inr ⟨Nat.le_trans hE.size hi.1, hi.2⟩
theorem ptrs_set {h : Nat} {ks : List (PT h)} {i : Nat} (hi : i < ks.length) (a : PT h) : (ptrs h ks).set i (ptr h a) = ptrs h (ks.take i ++ [a] ++ ks.drop (i + 1)) := by
  rw [ptrs, ← List.map_set, List.set_eq_take_append_cons_drop, if_pos hi, List.append_assoc]; rfl
theorem ptrs_ins {h : Nat} {ks : List (PT h)} {i : Nat} (hi : i < ks.length) (a b : PT h) : (ptrs h (ks.take i ++ [a] ++ ks.drop (i + 1))).take ((i + 1) * 1) ++ [ptr h b] ++ (ptrs h (ks.take i ++ [a] ++ ks.drop (i + 1))).drop ((i + 1) * 1) = ptrs h (ks.take i ++ [a, b] ++ ks.drop (i + 1)) := by
  have hl : (ptrs h (ks.take i ++ [a])).length = i + 1 := by simp [ptrs]; omega
  have e : ptrs h (ks.take i ++ [a] ++ ks.drop (i + 1)) = ptrs h (ks.take i ++ [a]) ++ ptrs h (ks.drop (i + 1)) := by simp [ptrs]
  rw [e, Nat.mul_one, ← hl, List.take_left, List.drop_left, hl]
  simp [ptrs]
set_option maxRecDepth 100000 in
set_option maxHeartbeats 1000000 in
theorem with_succ {h : Nat} {k : ByteArray} {v : Val} {sl so : Sl} (hkm : k.size ≤ maxLen)
    (ih : ∀ (w : World) (F : Nat → Prop) (t : PT h), (∀ b, F b → b < w.heap.size) → IsN w F h t → OkT h t → Sorted (ents h t) → (ents h t).length ≤ 1000000 → RV w (Lt w.heap.size) v sl so → Calls Tryz.prog 66 #[ptr h t, aggE k v sl so] w (WithPost F h t k v w))
    {w : World} {F : Nat → Prop} {t : PT (h + 1)} (hF : ∀ b, F b → b < w.heap.size) (hn : IsN w F (h + 1) t) (ok : OkT (h + 1) t) (hs : Sorted (ents (h + 1) t)) (hc : (ents (h + 1) t).length ≤ 1000000) (hv : RV w (Lt w.heap.size) v sl so) :
    Calls Tryz.prog 66 #[ptr (h + 1) t, aggE k v sl so] w (WithPost F (h + 1) t k v w) := by
  have hpos := kids_pos ok
  have hh : h + 1 < 1000000 := Nat.lt_of_lt_of_le (height_lt (h + 1) t ok (by have := ok.1; show 1 ≤ t.2.length; omega)) hc
  obtain ⟨kid, hkid, hA, hC⟩ := which_split (h := h) (ks := t.2) hs hpos (by have := ok.1; omega) k
  have hkm' := List.mem_of_getElem? hkid
  have hil := (List.getElem?_eq_some_iff.1 hkid).1
  have hlen2 := ok.1
  have hlen8 := ok.2.1
  have hks : ∀ x ∈ t.2, IsN w F h x := hn.2.choose_spec.2.2
  have hkc : (ents h kid).length ≤ 1000000 := Nat.le_trans (by
    show _ ≤ (t.2.flatMap (ents h)).length
    rw [take_mid hkid]; simp only [List.flatMap_append, List.flatMap_cons, List.length_append]; omega) hc
  have hih : ∀ W, Ext w W → Calls Tryz.prog 66 #[ptr h kid, aggE k v sl so] W (WithPost' F h kid k v W) := fun W hW =>
    (ih W F kid (fun b hb => Nat.lt_of_lt_of_le (hF b hb) hW.size) ((hks kid hkm').agree (hW.agree hF)) (ok.2.2 kid hkm').1 (kid_sorted hs kid hkm') hkc ((hv.agree (hW.agree fun _ h => h)).mono fun i hi => Nat.lt_of_lt_of_le hi hW.size)).mono fun _ _ p => p.apart
  have HF := Lib.hid hF
  have HN := Lib.hid hn
  have HOK := Lib.hid ok
  have HS := Lib.hid hs
  have HC := Lib.hid hc
  have HP := Lib.hid hpos
  have HIH := Lib.hid hih
  have HKS := Lib.hid hks
  have HKID := Lib.hid hkid
  have hnz : (((h : Int) + 1) == 0) = false := beq_eq_false_iff_ne.2 (by omega)
  clear hF hn ok hs hc hpos hih hks hkid hA hC hv ih hkc
  go_enter Tryz.func66, Tryz.ntmps66
  go_wp2_with fail
  have hx0 : Ext w (w.alloc (.cells #[.string k, .int .i64 v.kind, .bool v.b, .int .i64 v.i, .string v.t, .slice sl.a v.l.length sl.c, .slice so.a v.ok.length so.c] 47)) := (Ext.refl w).alloc _ _
  have hb0 := Blk.new w 47 #[.string k, .int .i64 v.kind, .bool v.b, .int .i64 v.i, .string v.t, .slice sl.a v.l.length sl.c, .slice so.a v.ok.length so.c]
  generalize hW0 : World.alloc _ _ = W0 at *
  have hz0 : W0.heap.size = w.heap.size + 1 := by rw [← hW0]; simp
  clear hW0
  have hnW : IsN W0 F (h + 1) t := HN.out.agree (hx0.agree HF.out)
  refine (height_any hnW).mono ?_
  rintro e w1 ⟨rfl, rfl⟩
  have hkc := kids_any hnW (by omega)
  clear hnW
  go_wp2_with fail
  refine hkc.mono ?_
  rintro e w1 ⟨s', rfl, hown, hx1⟩
  have hX1 := hx0.trans hx1
  have hb1 := hb0.ext hx1
  obtain ⟨c0, c1, c2, c3, c4, c5, c6⟩ := hb1.c7
  have hrd : Rd w1 (Lt w1.heap.size) 1 s' t.2.length (ptrs h t.2) := (Rd.of_own hown).mono fun i hi => hi.2
  have hwh := which_any hrd (fun x hx => (HKS.out x hx).agree (hX1.agree HF.out)) (fun b hb => Nat.lt_of_lt_of_le (HF.out b hb) hX1.size) HP.out k HS.out (by omega)
  obtain ⟨i, hi⟩ : ∃ i, whichK h t.2 k = i := ⟨_, rfl⟩
  rw [hi] at hwh hil
  have HI := Lib.hid hi
  have HWH := Lib.hid hwh
  have HO1 := Lib.hid hown
  have HB1 := Lib.hid hb1
  have HX1 := Lib.hid hX1
  have HX01 := Lib.hid hx1
  clear hi hwh hown hb1 hX1 hrd hkc hb0 hx0 hx1
  go_wp2_with fail
  refine HWH.out.mono ?_
  rintro e w2 ⟨rfl, hx2⟩
  clear c0 c1 c2 c3 c4 c5 c6
  obtain ⟨d0, d1, d2, d3, d4, d5, d6⟩ := (HB1.out.ext hx2).c7
  have hbl := HB1.out.lt
  have hbl2 := (HB1.out.ext hx2).lt
  have hX2 := HX1.out.trans hx2
  obtain ⟨g, cap, rfl, hbg, hnc, hcm, hfil⟩ := own_block HO1.out (by omega)
  have ho2 : w2.ownsRow W0.heap.size 31 1 (.slice (some ⟨g, 0, none⟩) t.2.length cap) t.2.length (ptrs h t.2) := own_agree HO1.out (hx2.agree (F := Lt w1.heap.size) fun _ h => h) fun b hb => (own_row HO1.out hb).2
  have hkp : w2.cell? ⟨g, i, none⟩ = some (ptr h kid) := by
    have := ho2.cells (g := g) rfl i (ptr h kid) (by rw [ptrs, List.getElem?_map, ← HI.out, HKID.out]; rfl)
    rwa [add_at, Nat.zero_add] at this
  have hil' : (i : Int) < (t.2.length : Int) := by omega
  have HO2 := Lib.hid ho2
  have HX2 := Lib.hid hX2
  have hg2 : g < w2.heap.size := (own_row (s := ⟨some ⟨g, 0, none⟩, cap⟩) ho2 rfl).2
  have hfz : ∀ o, w2.frozen? ⟨g, o, none⟩ = false := fun o => by rw [hx2.frozen hfil.lt]; exact hfil.frozen o
  clear hx2 ho2 hX2 hfil
  go_wp2_with fail
  go_region_held3 (fun w' => w'.cell? ⟨g, i, none⟩ = some (ptr h kid) ∧ w'.cell? ⟨w.heap.size, 0, none⟩ = some (.string k) ∧ w'.cell? ⟨w.heap.size, 1, none⟩ = some (.int .i64 v.kind) ∧ w'.cell? ⟨w.heap.size, 2, none⟩ = some (.bool v.b) ∧ w'.cell? ⟨w.heap.size, 3, none⟩ = some (.int .i64 v.i) ∧ w'.cell? ⟨w.heap.size, 4, none⟩ = some (.string v.t) ∧ w'.cell? ⟨w.heap.size, 5, none⟩ = some (.slice sl.a v.l.length sl.c) ∧ w'.cell? ⟨w.heap.size, 6, none⟩ = some (.slice so.a v.ok.length so.c)) (go_keep)
    ((go_at_call 66; refine (HIH.out _ HX2.out.drew).mono ?_; rintro e w3 ⟨a, r, rs, rfl, hr, hwr, hwn, hx3⟩; have HR := Lib.hid hr; have HWR := Lib.hid hwr; have HWN := Lib.hid hwn; clear hr hwr hwn; have ho3 : (∀ b o, b < w2.heap.size → w3.cell? ⟨b, o, none⟩ = w2.cell? ⟨b, o, none⟩) := fun b o hb => hx3.cell (show b < w2.drew.heap.size from hb)))
  have hX23 : Ext w2 w3 := ((Ext.refl w2).drew).trans hx3
  have hg3 : g < w3.heap.size := Nat.lt_of_lt_of_le hg2 hX23.size
  have hkp3 := (hX23.cell (o := i) hg2).trans hkp
  have hfz3 : w3.frozen? ⟨g, i, none⟩ = false := (hX23.frozen hg2).trans (hfz i)
  have HX23 := Lib.hid hX23
  have HX2D := Lib.hid hx3
  clear hX23 hx3 hkp hfz ho3 d0 d1 d2 d3 d4 d5 d6
  have ho3 : w3.ownsRow W0.heap.size 31 1 (.slice (some ⟨g, 0, none⟩) t.2.length cap) t.2.length (ptrs h t.2) := own_agree (s := ⟨some ⟨g, 0, none⟩, cap⟩) HO2.out (HX23.out.agree (F := Lt w2.heap.size) fun _ h => h) fun b hb => (own_row (s := ⟨some ⟨g, 0, none⟩, cap⟩) HO2.out hb).2
  have ho4 := own_set ho3 hil (ptr h a)
  rw [ptrs_set hil] at ho4
  have hX4 : Ext w (w3.setCell ⟨g, i, none⟩ (ptr h a)) := (HX2.out.trans HX23.out).setCell (p := ⟨g, i, none⟩) (by show w.heap.size ≤ g; omega) _
  have hag4 : Agree (Up F w2.drew w3) w3 (w3.setCell ⟨g, i, none⟩ (ptr h a)) := Agree.setCell w3 ⟨g, i, none⟩ _ (by
    rintro (hf | hf)
    · have : g < w.heap.size := HF.out g hf
      omega
    · have : w2.heap.size ≤ g := hf.1
      omega)
  have hkids : ∀ W, Ext w W → Agree (Up F w2.drew w3) w3 W → w3.heap.size ≤ W.heap.size → Kids W (Up F w W) h (t.2.take i ++ rs ++ t.2.drop (i + 1)) := fun W hW hag hsz => by
    have hke := kids_ents HKID.out HWR.out HOK.out HS.out
    have hko := kids_ok HKID.out HWR.out HOK.out
    rw [HI.out] at hke hko
    have hso : Sorted ((t.2.take i ++ rs ++ t.2.drop (i + 1)).flatMap (ents h)) := by rw [hke]; exact insE_sorted HS.out k v
    have hps : ∀ x ∈ t.2.take i ++ rs ++ t.2.drop (i + 1), 0 < (ents h x).length := fun x hx => ents_pos h x (hko x hx).1 (by have := (hko x hx).2; omega)
    refine ⟨fun b hb => hb.elim (fun h => Nat.lt_of_lt_of_le (HF.out b h) hW.size) fun h => h.2, fun x hx => ?_, rising_of hso hps, hps, fun x hx => by have := size_le8 (hko x hx).1; omega, by
      have := insE_len (ents (h + 1) t) k v
      have hcc := HC.out
      unfold cnt; rw [hke]; omega, by omega⟩
    rcases List.mem_append.1 hx with hx | hx
    · rcases List.mem_append.1 hx with hx | hx
      · exact ((HKS.out x (List.mem_of_mem_take hx)).agree (hW.agree HF.out)).mono fun _ h => .inl h
      · exact ((HWN.out x hx).agree hag).mono fun b hb => hb.elim .inl fun h => .inr ⟨Nat.le_trans HX2.out.size h.1, Nat.lt_of_lt_of_le h.2 hsz⟩
    · exact ((HKS.out x (List.mem_of_mem_drop hx)).agree (hW.agree HF.out)).mono fun _ h => .inl h
  have HK := Lib.hid hkids
  have HO4 := Lib.hid ho4
  have HX4 := Lib.hid hX4
  have HA4 := Lib.hid hag4
  have hB2 : w.heap.size ≤ w2.drew.heap.size := HX2.out.size
  have hgw : W0.heap.size ≤ w3.heap.size := by omega
  have HB2 := Lib.hid hB2
  clear ho3 ho4 hX4 hag4 hkids hB2
  rcases HR.out with ⟨rfl, rfl⟩ | ⟨b, rfl, rfl⟩
  · have hlen : (t.2.take i ++ [a] ++ t.2.drop (i + 1)).length = t.2.length := by simp; omega
    have hsp := splitP_any (w := w3.setCell ⟨g, i, none⟩ (ptr h a)) (s := ⟨some ⟨g, 0, none⟩, cap⟩) (by rw [hlen]; exact (Rd.of_own HO4.out).mono fun i hi => hi.2) (HK.out _ HX4.out HA4.out (by simp)) (by omega) (by omega)
    rw [hlen] at hsp
    have HSP := Lib.hid hsp
    clear hsp hlen
    go_wp2_with fail
    refine HSP.out.mono ?_
    rintro e w5 ⟨ts, rfl, h1, h2, h3⟩
    have H2 := Lib.hid h2
    have H1 := Lib.hid h1
    clear h2
    rcases two_cases1 h1 with ⟨a', rfl⟩ | ⟨a', b', rfl⟩
    all_goals
      clear h1
      simp only [two]
      go_wp2_with fail
      go_ret2
      exact with_end HX4.out HI.out HKID.out HB2.out HWR.out H1.out H2.out h3
  · have hw1 : IntKind.i64.wrap ((i : Int) + 1) = (i : Int) + 1 := by rw [IntKind.wrap_i64]; omega
    have hlen : (t.2.take i ++ [a] ++ t.2.drop (i + 1)).length = t.2.length := by simp; omega
    have hlen2' : (t.2.take i ++ [a, b] ++ t.2.drop (i + 1)).length = t.2.length + 1 := by simp; omega
    have hE5 : Ext (w3.setCell ⟨g, i, none⟩ (ptr h a)) ((w3.setCell ⟨g, i, none⟩ (ptr h a)).alloc (.cells #[ptr h b] 31)) := (Ext.refl _).alloc _ _
    have hb5 : Blk ((w3.setCell ⟨g, i, none⟩ (ptr h a)).alloc (.cells #[ptr h b] 31)) w3.heap.size 31 [ptr h b].toArray := by
      have := Blk.new (w3.setCell ⟨g, i, none⟩ (ptr h a)) 31 #[ptr h b]
      rwa [World.size_setCell] at this
    go_wp2_with fail
    change Calls _ _ _ ((w3.setCell ⟨g, i, none⟩ (ptr h a)).alloc (.cells #[ptr h b] 31)) _
    have ho5 : ((w3.setCell ⟨g, i, none⟩ (ptr h a)).alloc (.cells #[ptr h b] 31)).ownsRow W0.heap.size 31 1 (.slice (some ⟨g, 0, none⟩) t.2.length cap) t.2.length (ptrs h (t.2.take i ++ [a] ++ t.2.drop (i + 1))) := own_agree (s := ⟨some ⟨g, 0, none⟩, cap⟩) HO4.out (hE5.agree (F := Lt w3.heap.size) fun i hi => by rw [World.size_setCell]; exact hi) fun b hb => by
      have := (own_row (s := ⟨some ⟨g, 0, none⟩, cap⟩) HO4.out hb).2
      rwa [World.size_setCell] at this
    have hag5 : Agree (Up F w2.drew w3) w3 ((w3.setCell ⟨g, i, none⟩ (ptr h a)).alloc (.cells #[ptr h b] 31)) := HA4.out.trans (hE5.agree fun j hj => by rw [World.size_setCell]; exact hj.elim (fun hh => Nat.lt_of_lt_of_le (HF.out j hh) (by have := HX2.out.size; have := HX23.out.size; omega)) fun hh => hh.2)
    have hX5 := HX4.out.trans hE5
    have hz5 : ((w3.setCell ⟨g, i, none⟩ (ptr h a)).alloc (.cells #[ptr h b] 31)).heap.size = w3.heap.size + 1 := by simp
    generalize (w3.setCell ⟨g, i, none⟩ (ptr h a)).alloc (.cells #[ptr h b] 31) = W5 at *
    have hins := insN_any (w := W5) (base := W0.heap.size) (n := t.2.length) (i := i + 1) (s := ⟨some ⟨g, 0, none⟩, cap⟩) (xs := ptrs h (t.2.take i ++ [a] ++ t.2.drop (i + 1))) (ys := [ptr h b]) (vb := w3.heap.size) ho5 (by omega) (by omega) (by omega) rfl hb5 (by simp [Sl.row]; omega) (by simp [Value.oneCell']) (ptrs_one _ _)
    have H5 := Lib.hid hX5
    have HG5 := Lib.hid hag5
    clear hX5 hag5 hb5 ho5 hE5
    refine hins.mono ?_
    rintro e w6 ⟨s6, rfl, hown6, hwr6, -⟩
    rw [ptrs_ins hil] at hown6
    have hX6 : Ext w w6 := H5.out.wr hwr6 fun j hj => by simp [Sl.row] at hj; omega
    have hag6 : Agree (Up F w2.drew w3) w3 w6 := HG5.out.trans (hwr6.agree (fun j hj => by rw [hz5]; exact hj.elim (fun hh => Nat.lt_of_lt_of_le (HF.out j hh) (by have := HX2.out.size; have := HX23.out.size; omega)) fun hh => Nat.lt_succ_of_lt hh.2) (fun j hj => by
      simp [Sl.row] at hj; subst hj
      rintro (hf | hf)
      · have : g < w.heap.size := HF.out g hf
        omega
      · have : w2.heap.size ≤ g := hf.1
        omega))
    have hsp := splitP_any (w := w6) (s := s6) (by rw [hlen2']; exact (Rd.of_own hown6).mono fun i hi => hi.2) (HK.out _ hX6 hag6 (by have := hwr6.grown.size; omega)) (by omega) (by omega)
    rw [hlen2'] at hsp
    have HSP := Lib.hid hsp
    have HX6 := Lib.hid hX6
    clear hsp hlen hlen2' hX6 hag6 hown6 hwr6 hins
    go_wp2_with fail
    refine HSP.out.mono ?_
    rintro e w7 ⟨ts, rfl, h1, h2, h3⟩
    have H2 := Lib.hid h2
    have H1 := Lib.hid h1
    clear h2
    rcases two_cases1 h1 with ⟨a', rfl⟩ | ⟨a', b', rfl⟩
    all_goals
      clear h1
      simp only [two]
      go_wp2_with fail
      go_ret2
      exact with_end HX6.out HI.out HKID.out HB2.out HWR.out H1.out H2.out h3
end Go.Proofs.YtohajcflklejjaaGreat
namespace Go.Proofs.YtohajcflklejjaaGreat
open Go.RowKit
set_option linter.unusedVariables false
set_option linter.unusedSimpArgs false
theorem with_any {k : ByteArray} {v : Val} {sl so : Sl} (hkm : k.size ≤ maxLen) : ∀ (h : Nat) (w : World) (F : Nat → Prop) (t : PT h), (∀ b, F b → b < w.heap.size) → IsN w F h t → OkT h t → Sorted (ents h t) → (ents h t).length ≤ 1000000 → RV w (Lt w.heap.size) v sl so →
    Calls Tryz.prog 66 #[ptr h t, aggE k v sl so] w (WithPost F h t k v w)
  | 0, w, F, t, hF, hn, ok, hs, hc, hv => with_zero hF hn ok hs hv hkm
  | h + 1, w, F, t, hF, hn, ok, hs, hc, hv => with_succ hkm (with_any hkm h) hF hn ok hs hc hv
abbrev RT := Option (Σ h, PT h)
def rootV : RT → Value
  | none => .pointer none
  | some ⟨h, t⟩ => ptr h t
abbrev treeV (T : RT) : Value := .agg #[rootV T]
def entsT : RT → List Ent
  | none => []
  | some ⟨h, t⟩ => ents h t
def OkR : RT → Prop
  | none => True
  | some ⟨h, t⟩ => OkT h t ∧ 1 ≤ size h t ∧ Sorted (ents h t)
def IsT (w : World) (F : Nat → Prop) : RT → Prop
  | none => True
  | some ⟨h, t⟩ => IsN w F h t
theorem IsT.agree {w w' : World} {F : Nat → Prop} {T : RT} (h : IsT w F T) (ha : Agree F w w') : IsT w' F T := by
  match T, h with
  | none, _ => trivial
  | some ⟨n, t⟩, h => exact IsN.agree ha h
theorem IsT.mono {w : World} {F G : Nat → Prop} {T : RT} (h : IsT w F T) (hG : ∀ i, F i → G i) : IsT w G T := by
  match T, h with
  | none, _ => trivial
  | some ⟨n, t⟩, h => exact IsN.mono hG h
theorem OkR.sorted {T : RT} (h : OkR T) : Sorted (entsT T) := by
  match T, h with
  | none, _ => exact List.Pairwise.nil
  | some ⟨n, t⟩, h => exact h.2.2
inductive WithRT (B : Nat) (k : ByteArray) (v : Val) : RT → (h : Nat) → List (PT h) → Prop
  | none (u : PT 0) (h : u.2 = [(k, v)]) (hb : B ≤ u.1) : WithRT B k v none 0 [u]
  | some {h : Nat} {t : PT h} {ts : List (PT h)} (hw : WithR B k v h t ts) : WithRT B k v (some ⟨h, t⟩) h ts
theorem WithRT.mono {A B : Nat} (hAB : A ≤ B) {k : ByteArray} {v : Val} {T : RT} {h : Nat} {ts : List (PT h)} (hw : WithRT B k v T h ts) : WithRT A k v T h ts := by
  cases hw with
  | none u hu hb => exact .none u hu (Nat.le_trans hAB hb)
  | some hw => exact .some (hw.mono hAB)
theorem WithRT.height {B : Nat} {k : ByteArray} {v : Val} {T : RT} {h : Nat} {ts : List (PT h)} (hw : WithRT B k v T h ts) (ok : OkR T) : h ≤ (entsT T).length := by
  cases hw with
  | none u hu hb => exact Nat.zero_le _
  | some hw => exact Nat.le_of_lt (height_lt _ _ ok.1 ok.2.1)
inductive PutR (B : Nat) (k : ByteArray) (v : Val) : RT → RT → Prop
  | one {T : RT} {h : Nat} {a : PT h} (hw : WithRT B k v T h [a]) : PutR B k v T (some ⟨h, a⟩)
  | two {T : RT} {h : Nat} {a b : PT h} {c : PT (h + 1)} (hw : WithRT B k v T h [a, b]) (hc : c.2 = [a, b]) (hb : B ≤ addr (h + 1) c) : PutR B k v T (some ⟨h + 1, c⟩)
theorem WithRT.ents {B : Nat} {k : ByteArray} {v : Val} {T : RT} {h : Nat} {ts : List (PT h)} (hw : WithRT B k v T h ts) (ok : OkR T) : ts.flatMap (Proofs.YtohajcflklejjaaGreat.ents h) = insE (entsT T) k v := by
  cases hw with
  | none u hu hb =>
    show u.2 ++ [] = _
    rw [hu]; rfl
  | some hw => exact hw.ents ok.1 ok.2.2
theorem WithRT.ok {B : Nat} {k : ByteArray} {v : Val} {T : RT} {h : Nat} {ts : List (PT h)} (hw : WithRT B k v T h ts) (ok : OkR T) : (∀ u ∈ ts, OkT h u ∧ 1 ≤ size h u) ∧ (2 ≤ ts.length → ∀ u ∈ ts, 4 ≤ size h u) := by
  cases hw with
  | none u hu hb =>
    refine ⟨fun x hx => ?_, fun h => by simp at h⟩
    obtain rfl : x = u := by simpa using hx
    exact ⟨show x.2.length ≤ 8 by rw [hu]; simp, show 1 ≤ x.2.length by rw [hu]; simp⟩
  | some hw => exact ⟨fun u hu => ⟨(hw.ok ok.1).1 u hu |>.1, ((hw.ok ok.1).1 u hu).2.1⟩, (hw.ok ok.1).2⟩
theorem PutR.ents {B : Nat} {k : ByteArray} {v : Val} {T T' : RT} (hp : PutR B k v T T') (ok : OkR T) : entsT T' = insE (entsT T) k v := by
  cases hp with
  | one hw => have := hw.ents ok; simpa [entsT] using this
  | two hw hc hb =>
    rename_i h a b c
    have := hw.ents ok
    rw [← this, ← hc]; rfl
theorem PutR.ok {B : Nat} {k : ByteArray} {v : Val} {T T' : RT} (hp : PutR B k v T T') (ok : OkR T) : OkR T' := by
  have hs : Sorted (entsT T') := by rw [hp.ents ok]; exact insE_sorted ok.sorted k v
  cases hp with
  | one hw => rename_i h a; exact ⟨((hw.ok ok).1 a (by simp)).1, ((hw.ok ok).1 a (by simp)).2, hs⟩
  | two hw hc hb =>
    rename_i h a b c
    have h1 := hw.ok ok
    refine ⟨⟨by rw [hc]; simp, by rw [hc]; simp, fun x hx => ?_⟩, show 1 ≤ c.2.length by rw [hc]; simp, hs⟩
    rw [hc] at hx
    exact ⟨(h1.1 x hx).1, h1.2 (by simp) x hx⟩
theorem Rd.of_blk {w : World} {g : Nat} {t : TypeId} {cs : List Value} (hb : Blk w g t cs.toArray) (hm : cs.length ≤ maxLen) : Rd w (fun b => b = g) 1 ⟨some ⟨g, 0, none⟩, cs.length⟩ cs.length cs :=
  ⟨g, 0, .some _ _ _ _ (Nat.le_refl _) hm rfl, (Nat.mul_one _).symm, fun j u hj => by rw [Nat.zero_add, hb.cell]; simpa using hj⟩
def WithPostT (F : Nat → Prop) (T : RT) (k : ByteArray) (v : Val) (w : World) (e : Ending) (w' : World) : Prop :=
  ∃ (h : Nat) (a : PT h) (r : Value) (rs : List (PT h)), e = .returned (.tuple #[ptr h a, r]) ∧ ((r = .pointer none ∧ rs = [a]) ∨ ∃ b, r = ptr h b ∧ rs = [a, b]) ∧ WithRT w.heap.size k v T h rs ∧ (∀ u ∈ rs, IsN w' (Up F w w') h u) ∧ Ext w w'
theorem withT_any {w : World} {F : Nat → Prop} {T : RT} (hF : ∀ b, F b → b < w.heap.size) (hT : IsT w F T) (ok : OkR T) (hc : (entsT T).length ≤ 1000000) {k : ByteArray} {v : Val} {sl so : Sl} (hkm : k.size ≤ maxLen) (hv : RV w (Lt w.heap.size) v sl so) :
    Calls Tryz.prog 66 #[rootV T, aggE k v sl so] w (WithPostT F T k v w) := by
  match T, hT, ok, hc with
  | none, _, _, _ =>
    refine (with_leaf (nv := .pointer none) (es := []) (fun W hW => (height_nil W)) (fun W hW => (entries_nil W).mono ?_) List.Pairwise.nil (by simp) hv hkm).mono ?_
    · rintro e w' ⟨rfl, rfl⟩
      exact ⟨Sl.none, [], rfl, rfl, OE.nil _ _, Ext.refl _⟩
    · rintro e w' ⟨ts, rfl, h1, h2, h3⟩
      obtain ⟨u, rfl, hu⟩ := one0 (h1.trans (show chunk (insE [] k v) = [[(k, v)]] from rfl))
      exact ⟨0, u, _, _, rfl, .inl ⟨rfl, rfl⟩, .none u hu (h2 u (by simp)).1, fun x hx => (h2 x hx).2.mono fun i hi => .inr hi, h3⟩
  | some ⟨h, t⟩, hT, ok, hc =>
    refine (with_any hkm h w F t hF hT ok.1 ok.2.2 hc hv).mono ?_
    intro e w' p
    obtain ⟨a, r, rs, rfl, h1, h2, h3, h4⟩ := p.apart
    exact ⟨h, a, r, rs, rfl, h1, .some h2, h3, h4⟩
def PutPost (F : Nat → Prop) (T : RT) (k : ByteArray) (v : Val) (w : World) (e : Ending) (w' : World) : Prop :=
  ∃ T', e = .returned (treeV T') ∧ PutR w.heap.size k v T T' ∧ IsT w' (Up F w w') T' ∧ Ext w w'
set_option maxRecDepth 100000 in
set_option maxHeartbeats 1000000 in
theorem put_any {w : World} {F : Nat → Prop} {T : RT} (hF : ∀ b, F b → b < w.heap.size) (hT : IsT w F T) (ok : OkR T) (hc : (entsT T).length ≤ 1000000) {k : ByteArray} {v : Val} {sl so : Sl} (hkm : k.size ≤ maxLen) (hv : RV w (Lt w.heap.size) v sl so) :
    Calls Tryz.prog 46 #[treeV T, .string k, aggV v sl so] w (PutPost F T k v w) := by
  have hcw : ∀ W, Ext w W → Calls Tryz.prog 66 #[rootV T, aggE k v sl so] W (WithPostT F T k v W) := fun W hW =>
    withT_any (fun b hb => Nat.lt_of_lt_of_le (hF b hb) hW.size) (hT.agree (hW.agree hF)) ok hc hkm ((hv.agree (hW.agree fun _ h => h)).mono fun i hi => Nat.lt_of_lt_of_le hi hW.size)
  have HW := Lib.hid hcw
  have HF := Lib.hid hF
  have HOK := Lib.hid ok
  clear hF hT ok hv hcw
  go_enter Tryz.func46, Tryz.ntmps46
  go_wp2_with fail
  have hx3 : Ext w (((w.alloc (.cells #[rootV T] 33)).alloc (.cells #[.int .i64 v.kind, .bool v.b, .int .i64 v.i, .string v.t, .slice sl.a v.l.length sl.c, .slice so.a v.ok.length so.c] 44)).alloc (.cells #[.pointer none] 33)) := (((Ext.refl w).alloc _ _).alloc _ _).alloc _ _
  have hb3 : Blk (((w.alloc (.cells #[rootV T] 33)).alloc (.cells #[.int .i64 v.kind, .bool v.b, .int .i64 v.i, .string v.t, .slice sl.a v.l.length sl.c, .slice so.a v.ok.length so.c] 44)).alloc (.cells #[.pointer none] 33)) (w.heap.size + 1 + 1) 33 #[.pointer none] := by
    have := Blk.new ((w.alloc (.cells #[rootV T] 33)).alloc (.cells #[.int .i64 v.kind, .bool v.b, .int .i64 v.i, .string v.t, .slice sl.a v.l.length sl.c, .slice so.a v.ok.length so.c] 44)) 33 #[.pointer none]
    simpa using this
  generalize hW3 : World.alloc _ _ = W3 at *
  have hz3 : W3.heap.size = w.heap.size + 1 + 1 + 1 := by rw [← hW3]; simp
  clear hW3
  refine (HW.out _ hx3).mono ?_
  rintro e w4 ⟨h, a, r, rs, rfl, hr, hwr, hwn, hx4⟩
  have hb4 := hb3.ext hx4
  have hX4 := hx3.trans hx4
  have q4 : w4.cell? ⟨w.heap.size + 1 + 1, 0, none⟩ = some (.pointer none) := hb4.cell 0
  have f4 := hb4.frozen 0
  have hl4 := hb4.lt
  have HWR := Lib.hid hwr
  have HWN := Lib.hid hwn
  have HX := Lib.hid hX4
  have HXX := Lib.hid hx4
  have HB4 := Lib.hid hb4
  have hnF : ∀ W', ¬ Up F W3 W' (w.heap.size + 1 + 1) := fun W' hf => by
    rcases hf with hf | hf
    · have := HF.out _ hf; omega
    · have := hf.1; omega
  have HNF := Lib.hid hnF
  have hwW : w.heap.size ≤ W3.heap.size := by omega
  clear hb3 hb4 hwr hwn hX4 hx3 hx4 hnF
  rcases hr with ⟨rfl, rfl⟩ | ⟨b, rfl, rfl⟩
  · go_wp2_with fail
    have q0 : (w4.setCell ⟨w.heap.size + 1 + 1, 0, none⟩ (ptr h a)).cell? ⟨w.heap.size + 1 + 1, 0, none⟩ = some (ptr h a) := World.cell?_setCell_same w4 _ _ q4
    refine bodyPost_ret (v := treeV (some ⟨h, a⟩)) (by simp [results, Tryz.results46, go_sem, q0]; rfl) rfl ?_
    refine ⟨some ⟨h, a⟩, rfl, .one ?_, ?_, HX.out.setCell (p := ⟨w.heap.size + 1 + 1, 0, none⟩) (by show w.heap.size ≤ w.heap.size + 1 + 1; omega) _⟩
    · exact HWR.out.mono hwW
    · show IsN _ _ h a
      refine ((HWN.out a (by simp)).agree (Agree.setCell w4 ⟨w.heap.size + 1 + 1, 0, none⟩ _ (HNF.out w4))).mono fun i hi => hi.elim .inl fun hi => .inr ⟨Nat.le_trans hwW hi.1, by rw [World.size_setCell]; exact hi.2⟩
  · have hE5 : Ext w4 (w4.alloc (.cells #[ptr h a, ptr h b] 31)) := (Ext.refl _).alloc _ _
    have hb5 : Blk (w4.alloc (.cells #[ptr h a, ptr h b] 31)) w4.heap.size 31 (ptrs h [a, b]).toArray := Blk.new w4 31 #[ptr h a, ptr h b]
    have hz5 : (w4.alloc (.cells #[ptr h a, ptr h b] 31)).heap.size = w4.heap.size + 1 := by simp
    go_wp2_with fail
    change Calls _ _ _ (w4.alloc (.cells #[ptr h a, ptr h b] 31)) _
    generalize w4.alloc (.cells #[ptr h a, ptr h b] 31) = W5 at *
    have he := HWR.out.ents HOK.out
    have hko := HWR.out.ok HOK.out
    have hps : ∀ x ∈ [a, b], 0 < (ents h x).length := fun x hx => ents_pos h x (hko.1 x hx).1 (hko.1 x hx).2
    have hso : Sorted ([a, b].flatMap (ents h)) := by rw [he]; exact insE_sorted HOK.out.sorted k v
    have hkids : Kids W5 (Up F W3 W5) h [a, b] := by
      refine ⟨fun b hb => hb.elim (fun h => Nat.lt_of_lt_of_le (HF.out b h) (by have := HX.out.size; omega)) fun h => h.2, fun x hx => ?_, rising_of hso hps, hps, fun x hx => by have := size_le8 (hko.1 x hx).1; omega, by
        have := insE_len (entsT T) k v
        unfold cnt; rw [he]; omega, by have := HWR.out.height HOK.out; omega⟩
      exact ((HWN.out x hx).agree (hE5.agree fun i hi => hi.elim (fun h => Nat.lt_of_lt_of_le (HF.out i h) HX.out.size) fun h => h.2)).mono fun i hi => hi.elim .inl fun hi => .inr ⟨hi.1, by omega⟩
    have hin := tinner_any (w := W5) (n := 2) (s := ⟨some ⟨w4.heap.size, 0, none⟩, 2⟩) ((Rd.of_blk hb5 (by simp [ptrs]; decide)).mono fun i hi => by subst hi; omega) rfl hkids (by simp) (by simp)
    have HE5 := Lib.hid hE5
    clear hE5 hb5 he hko hps hso hkids
    refine hin.mono ?_
    rintro e w6 ⟨c, rfl, hc2, hca, hcn, hx6⟩
    have HCN := Lib.hid hcn
    have q6 : w6.cell? ⟨w.heap.size + 1 + 1, 0, none⟩ = some (.pointer none) := ((HE5.out.trans hx6).cell hl4).trans q4
    have f6 : w6.frozen? ⟨w.heap.size + 1 + 1, 0, none⟩ = false := ((HE5.out.trans hx6).frozen hl4).trans f4
    have HX6 := Lib.hid hx6
    clear hin hcn q4 f4 hx6
    go_wp2_with fail
    have q0 : (w6.setCell ⟨w.heap.size + 1 + 1, 0, none⟩ (ptr (h + 1) c)).cell? ⟨w.heap.size + 1 + 1, 0, none⟩ = some (ptr (h + 1) c) := World.cell?_setCell_same w6 _ _ q6
    refine bodyPost_ret (v := treeV (some ⟨h + 1, c⟩)) (by simp [results, Tryz.results46, go_sem, q0]; rfl) rfl ?_
    have hw5 : w.heap.size ≤ W5.heap.size := by have := HX.out.size; omega
    refine ⟨some ⟨h + 1, c⟩, rfl, .two (HWR.out.mono hwW) hc2 (Nat.le_trans hw5 hca), ?_, ((HX.out.trans HE5.out).trans HX6.out).setCell (p := ⟨w.heap.size + 1 + 1, 0, none⟩) (by show w.heap.size ≤ w.heap.size + 1 + 1; omega) _⟩
    show IsN _ _ (h + 1) c
    refine (HCN.out.agree (Agree.setCell w6 ⟨w.heap.size + 1 + 1, 0, none⟩ _ ?_)).mono fun i hi => ?_
    · rintro (hf | hf)
      · exact HNF.out W5 hf
      · have : W5.heap.size ≤ w.heap.size + 1 + 1 := hf.1
        omega
    · rcases hi with (hi | hi) | hi
      · exact .inl hi
      · exact .inr ⟨Nat.le_trans hwW hi.1, by rw [World.size_setCell]; exact Nat.lt_of_lt_of_le hi.2 HX6.out.size⟩
      · exact .inr ⟨Nat.le_trans hw5 hi.1, by rw [World.size_setCell]; exact hi.2⟩
end Go.Proofs.YtohajcflklejjaaGreat
namespace Go.Proofs.YtohajcflklejjaaGreat
open Go.RowKit
set_option linter.unusedVariables false
set_option linter.unusedSimpArgs false
theorem Blk.c3 {w : World} {g : Nat} {t : TypeId} {v0 v1 v2 : Value} (h : Blk w g t #[v0, v1, v2]) : w.cell? ⟨g, 0, none⟩ = some v0 ∧ w.cell? ⟨g, 1, none⟩ = some v1 ∧ w.cell? ⟨g, 2, none⟩ = some v2 := ⟨h.cell 0, h.cell 1, h.cell 2⟩
end Go.Proofs.YtohajcflklejjaaGreat
namespace Go.Proofs.YtohajcflklejjaaGreat
open Go.RowKit
set_option linter.unusedVariables false
set_option linter.unusedSimpArgs false
theorem RV.flat (w : World) (F : Nat → Prop) (kind : Int) (b : Bool) (i : Int) (t : ByteArray) (hk : (Lit.int .i64 kind).wf = true) (hi : (Lit.int .i64 i).wf = true) (ht : t.size ≤ maxLen) : RV w F (.mk kind b i t [] [] []) Sl.none Sl.none :=
  .mk 0 0 0 0 (fun _ => (Sl.none, Sl.none)) (fun _ => (Sl.none, Sl.none)) (.nil _ _) (.nil _ _) rfl (fun _ _ h => by simp at h) (fun _ _ h => by simp at h) (fun _ _ h => by simp at h) (fun _ _ h => by simp at h) (fun _ _ h => by simp at h) hk hi ht (by simp) (by simp)
theorem IsT.lt {w : World} {F : Nat → Prop} {T : RT} (h : IsT w F T) {a : Nat} (ha : rootV T = .pointer (some ⟨a, 0, none⟩)) : a < w.heap.size := by
  match T, h with
  | none, _ => cases ha
  | some ⟨n, t⟩, h =>
    simp only [rootV, ptr, Value.pointer.injEq, Option.some.injEq, Addr.mk.injEq, and_true] at ha
    subst ha
    obtain ⟨-, _, _, _, _, -, hb⟩ := IsN.cells h
    exact hb.lt
def IsB (w : World) (a : Nat) : Prop := ∃ (c : Array Value) (t : TypeId), w.heap[a]? = some (.cells c t (0, 0))
theorem IsB.ext {w w' : World} {a : Nat} (h : IsB w a) (he : Ext w w') : IsB w' a := by
  obtain ⟨c, t, hc⟩ := h
  exact ⟨c, t, (he.heap (Array.getElem?_eq_some_iff.1 hc).1).trans hc⟩
end Go.Proofs.YtohajcflklejjaaGreat
namespace Go.Proofs.YtohajcflklejjaaGreat
open Go.RowKit
set_option linter.unusedVariables false
set_option linter.unusedSimpArgs false
theorem pos_split (es : List Ent) (k : ByteArray) (hs : Sorted es) : (∀ e ∈ es.take (posE es k), klt e.1 k = true) ∧ (∀ e ∈ es.drop (posE es k), klt e.1 k = false) := by
  have e1 : es.take (posE es k) = es.takeWhile fun e => klt e.1 k := (List.prefix_iff_eq_take.1 (List.takeWhile_prefix (l := es) (fun e : Ent => klt e.1 k))).symm
  have e2 : es.drop (posE es k) = es.dropWhile fun e => klt e.1 k := by
    have h1 := List.take_append_drop (posE es k) es
    rw [e1] at h1
    have h2 := List.takeWhile_append_dropWhile (p := fun e : Ent => klt e.1 k) (l := es)
    exact List.append_cancel_left (h1.trans h2.symm)
  refine ⟨fun e he => ?_, fun e he => ?_⟩
  · rw [e1] at he
    exact List.all_eq_true.1 (List.all_takeWhile (l := es) (p := fun e : Ent => klt e.1 k)) e he
  · have hsd : Sorted (es.drop (posE es k)) := List.Pairwise.sublist (List.drop_sublist _ _) hs
    rw [e2] at he hsd
    cases hd : es.dropWhile fun e => klt e.1 k with
    | nil => rw [hd] at he; cases he
    | cons x xs =>
      rw [hd] at he hsd
      have hx : klt x.1 k = false := by
        have := List.head?_dropWhile_not (fun e : Ent => klt e.1 k) es
        rw [hd] at this
        simpa using this
      rcases List.mem_cons.1 he with rfl | he
      · exact hx
      · have := (List.pairwise_cons.1 hsd).1 e he
        cases hc : klt e.1 k
        · rfl
        · rw [klt_trans this hc] at hx; cases hx
theorem getE_pos {es : List Ent} (hs : Sorted es) (k : ByteArray) : getE es k = (es[posE es k]?).bind fun e => if e.1 = k then some e.2 else none := by
  obtain ⟨hA, hB⟩ := pos_split es k hs
  have hsd : Sorted (es.drop (posE es k)) := List.Pairwise.sublist (List.drop_sublist _ _) hs
  conv => lhs; rw [← List.take_append_drop (posE es k) es]
  rw [getE_app hA, ← Nat.add_zero (posE es k), ← List.getElem?_drop, Nat.add_zero]
  cases hd : es.drop (posE es k) with
  | nil => rfl
  | cons x xs =>
    rw [hd] at hsd hB
    simp only [List.getElem?_cons_zero, Option.bind_some, getE]
    by_cases hx : x.1 = k
    · simp [hx]
    · simp only [hx, if_false]
      refine getE_none fun e he => ?_
      have h1 := klt_of_not (hB x (List.mem_cons_self ..)) hx
      have h2 := klt_trans h1 ((List.pairwise_cons.1 hsd).1 e he)
      rintro rfl
      rw [klt_irrefl] at h2; cases h2
def GetPost (o : Option Val) (w : World) (e : Ending) (w' : World) : Prop :=
  ∃ sl so, e = .returned (.tuple #[aggV (o.getD zeroV) sl so, .bool o.isSome]) ∧ Ext w w' ∧ RV w' (In w.heap.size w'.heap.size) (o.getD zeroV) sl so
set_option maxRecDepth 100000 in
/-- The closure of get. -/
theorem get1_any {W : World} {nv : Value} {b1 b2 : Nat} {k k' : ByteArray} {v : Val} {i : Nat} (h1 : W.cell? ⟨b1, 0, none⟩ = some nv) (h2 : W.cell? ⟨b2, 0, none⟩ = some (.string k))
    (hp : ∃ p, nv = .pointer p) (hc : Calls Tryz.prog 80 #[nv, .int .i64 i] W (EntryPost k' v W)) :
    Calls Tryz.prog 79 #[.int .i64 i, .pointer (some ⟨b1, 0, none⟩), .pointer (some ⟨b2, 0, none⟩)] W fun e w' => e = .returned (.bool !(klt k' k)) ∧ Ext W w' := by
  obtain ⟨p, rfl⟩ := hp
  have hb2 := World.block_lt_of_cell? W _ h2
  go_enter Tryz.func79, Tryz.ntmps79
  go_wp2_with fail
  refine hc.mono ?_
  rintro e w1 ⟨sl, so, rfl, hx, -⟩
  have q2 := (hx.cell hb2).trans h2
  have l2 : b2 < w1.heap.size := Nat.lt_of_lt_of_le hb2 hx.size
  have HX := Lib.hid hx
  clear hc hx h2
  go_wp2
  go_ret
  exact ⟨rfl, HX.out.alloc _ _⟩
structure GetS (w : World) (nv : Value) (k : ByteArray) (W : World) : Prop where
  ext : Ext w W
  b0 : Blk W w.heap.size 31 #[nv]
  b1 : Blk W (w.heap.size + 1) 9 #[.string k]
  b2 : Blk W (w.heap.size + 1 + 1) 44 #[.int .i64 0, .bool false, .int .i64 0, .string ByteArray.empty, .slice none 0 0, .slice none 0 0]
theorem GetS.step {w W W' : World} {nv : Value} {k : ByteArray} (h : GetS w nv k W) (he : Ext W W') : GetS w nv k W' := ⟨h.ext.trans he, h.b0.ext he, h.b1.ext he, h.b2.ext he⟩
theorem entry_nil (w : World) (i : Int) : Calls Tryz.prog 80 #[.pointer none, .int .i64 i] w fun e w' => e = .returned (.tuple #[aggE ByteArray.empty zeroV Sl.none Sl.none, .bool false]) ∧ Ext w w' := by
  go_enter Tryz.func80, Tryz.ntmps80
  go_wp2_with fail
  refine bodyPost_ret (v := .tuple #[aggE ByteArray.empty zeroV Sl.none Sl.none, .bool false]) (by simp [results, Tryz.results80, go_sem]; exact ⟨rfl, rfl, rfl, rfl, rfl, rfl, rfl⟩) rfl ⟨rfl, (Ext.refl w).alloc _ _⟩
set_option maxRecDepth 100000 in
set_option maxHeartbeats 1000000 in
theorem get_leaf {w : World} {nv : Value} {es : List Ent} (hp : ∃ p, nv = .pointer p) (hh : ∀ W, Ext w W → Calls Tryz.prog 75 #[nv] W fun e w' => e = .returned (.int .i64 0) ∧ W = w')
    (hz : ∀ W, Ext w W → Calls Tryz.prog 78 #[nv] W fun e w' => e = .returned (.int .i64 es.length) ∧ ∃ q, w' = W.drewN q)
    (he : ∀ W, Ext w W → ∀ (i : Nat) (e : Ent), es[i]? = some e → Calls Tryz.prog 80 #[nv, .int .i64 i] W (EntryPost e.1 e.2 W))
    (hno : ∀ W, Ext w W → ∀ i : Nat, es.length ≤ i → Calls Tryz.prog 80 #[nv, .int .i64 i] W fun e w' => e = .returned (.tuple #[aggE ByteArray.empty zeroV Sl.none Sl.none, .bool false]) ∧ Ext W w')
    (hs : Sorted es) (hl : es.length ≤ 1000) (k : ByteArray) : Calls Tryz.prog 51 #[nv, .string k] w (GetPost (getE es k) w) := by
  have HH := Lib.hid hh
  have HZ := Lib.hid hz
  have HE := Lib.hid he
  have HNO := Lib.hid hno
  have HS := Lib.hid hs
  obtain ⟨pp, rfl⟩ := hp
  clear hh hz he hno hs
  have hsr : ∀ W, GetS w (.pointer pp) k W → Calls Tryz.prog 70 #[.int .i64 es.length, .func (.func 79) #[] #[.pointer (some ⟨w.heap.size, 0, none⟩), .pointer (some ⟨w.heap.size + 1, 0, none⟩)]] W (SearchPost es.length (fun i => !(klt ((es[i]?.map Prod.fst).getD ByteArray.empty) k)) W) := by
    intro W hW
    refine search_any 79 _ _ es.length _ W (enters_of Tryz.func79 (by kernel_rfl) rfl) (by omega) ?_ ?_
    · intro i W' hi hW'
      obtain ⟨x, hx⟩ : ∃ x, es[i]? = some x := ⟨_, List.getElem?_eq_getElem hi⟩
      rw [hx]
      have hS := hW.step hW'
      exact get1_any (hS.b0.cell 0) (hS.b1.cell 0) ⟨_, rfl⟩ (HE.out W' hS.ext i x hx)
    · intro i j hij hj hpi
      by_cases hij' : i = j
      · subst hij'; exact hpi
      · obtain ⟨x, hx⟩ : ∃ x, es[i]? = some x := ⟨_, List.getElem?_eq_getElem (by omega)⟩
        obtain ⟨y, hy⟩ : ∃ y, es[j]? = some y := ⟨_, List.getElem?_eq_getElem hj⟩
        have hxy := sorted_lt HS.out (i := i) (j := j) (by omega) hx hy
        rw [hx] at hpi; rw [hy]
        simp only [Option.map_some, Option.getD_some, Bool.not_eq_true'] at hpi ⊢
        cases hyk : klt y.1 k
        · rfl
        · have := klt_trans hxy hyk
          rw [hpi] at this; cases this
  go_enter Tryz.func51, Tryz.ntmps51
  go_wp2_with fail
  generalize hW0 : World.alloc _ _ = W0
  obtain ⟨hx0, hz0, hb0, hb1, hb2⟩ := three_blocks w _ _ _ _ _ _ W0 hW0
  have hS0 : GetS w (.pointer pp) k W0 := ⟨hx0, hb0, hb1, hb2⟩
  have HS0 := Lib.hid hS0
  have q0 : W0.cell? ⟨w.heap.size, 0, none⟩ = some (.pointer pp) := hb0.cell 0
  clear hW0 hb0 hb1 hb2 hS0
  refine (HH.out W0 hx0).mono ?_
  rintro e w1 ⟨rfl, rfl⟩
  go_wp2_with fail
  refine (HZ.out W0 hx0).mono ?_
  rintro e w1 ⟨rfl, q, rfl⟩
  go_wp2_with fail
  refine (hsr _ (HS0.out.step ((Ext.refl _).drewN q))).mono ?_
  rintro e w1 ⟨p, rfl, hp, hlo, hhi, he1⟩
  have hS1 := HS0.out.step (((Ext.refl _).drewN q).trans he1)
  have HS1 := Lib.hid hS1
  have r0 : w1.cell? ⟨w.heap.size, 0, none⟩ = some (.pointer pp) := hS1.b0.cell 0
  have hpos : posE es k = p := posE_of hp (fun i e hi he => by
      have : (!(klt ((es[i]?.map Prod.fst).getD ByteArray.empty) k)) = false := hlo i hi
      rw [he] at this
      simpa using this) (fun e he => by
      have : (!(klt ((es[p]?.map Prod.fst).getD ByteArray.empty) k)) = true := hhi p (Nat.le_refl _) (List.getElem?_eq_some_iff.1 he).1
      rw [he] at this
      simpa using this)
  have hget : getE es k = (es[p]?).bind fun e => if e.1 = k then some e.2 else none := by rw [getE_pos HS.out, hpos]
  have HG := Lib.hid hget
  clear hlo hhi hpos hsr he1 hS1 q0 hget hx0 hz0
  go_wp2_with fail
  by_cases hlt : p < es.length
  · obtain ⟨x, hx⟩ : ∃ x, es[p]? = some x := ⟨_, List.getElem?_eq_getElem hlt⟩
    have hc := HE.out w1 HS1.out.ext p x hx
    have HX := Lib.hid hx
    clear hx
    refine hc.mono ?_
    rintro e w2 ⟨sl, so, rfl, hx2, hrv⟩
    have hS2 := HS1.out.step hx2
    have HS2 := Lib.hid hS2
    have q1 : w2.cell? ⟨w.heap.size + 1, 0, none⟩ = some (.string k) := hS2.b1.cell 0
    obtain ⟨c0, c1, c2, c3, c4, c5⟩ := hS2.b2.c6
    have f2 := hS2.b2.frozen
    have l2 := hS2.b2.lt
    have l1 : w.heap.size + 1 < w2.heap.size := by omega
    have HRV := Lib.hid hrv
    clear hS2 hx2 hrv hc
    by_cases hk : x.1 = k
    · have hkb : (x.1.toList == k.toList) = true := by rw [beq_toList]; simpa using hk
      have hg : getE es k = some x.2 := by rw [HG.out, HX.out]; simp [hk]
      have HGG := Lib.hid hg
      clear hk hg
      go_wp2_with fail
      refine bodyPost_ret (v := .tuple #[aggV x.2 sl so, .bool true]) (by simp [results, Tryz.results51, go_sem, c0, c1, c2, c3, c4, c5, l2]) rfl ?_
      have hE := HS2.out.ext.putV (b := w.heap.size + 1 + 1) (by omega) 0 x.2 sl so
      have hr := (HRV.out.mono (G := In w.heap.size w2.heap.size) fun i hi => ⟨Nat.le_trans HS1.out.ext.size hi.1, hi.2⟩)
      have hr2 : RV w2 (fun b => In w.heap.size w2.heap.size b ∧ b ≠ w.heap.size + 1 + 1) x.2 sl so := HRV.out.mono fun i hi => ⟨⟨Nat.le_trans HS1.out.ext.size hi.1, hi.2⟩, by have := HS1.out.b2.lt; have := hi.1; omega⟩
      have hr3 := hr2.agree (putV_agree w2 (w.heap.size + 1 + 1) 0 x.2 sl so (F := fun b => In w.heap.size w2.heap.size b ∧ b ≠ w.heap.size + 1 + 1) (fun h => h.2 rfl))
      refine ⟨sl, so, by rw [HGG.out]; rfl, hE.alloc _ _, ?_⟩
      rw [HGG.out]
      refine (hr3.agree (Agree.alloc _ _ (fun b hb => by rw [putV_size]; exact hb.1.2))).mono fun i hi => ⟨hi.1.1, ?_⟩
      have := hi.1.2
      simp; omega
    · have hkb : (x.1.toList == k.toList) = false := by rw [beq_toList]; simpa using hk
      have hg : getE es k = none := by rw [HG.out, HX.out]; simp [hk]
      have HGG := Lib.hid hg
      clear hk hg
      go_wp2_with fail
      refine bodyPost_ret (v := .tuple #[aggV zeroV Sl.none Sl.none, .bool false]) (by simp [results, Tryz.results51, go_sem, c0, c1, c2, c3, c4, c5, l2]; exact ⟨rfl, rfl, rfl, rfl, rfl, rfl⟩) rfl ?_
      have hE := HS2.out.ext.putV (b := w.heap.size + 1 + 1) (by omega) 0 zeroV Sl.none Sl.none
      exact ⟨Sl.none, Sl.none, by rw [HGG.out]; rfl, hE.alloc _ _, by rw [HGG.out]; exact RV.flat _ _ _ _ _ _ rfl rfl (by decide)⟩
  · have hnn : es[p]? = none := List.getElem?_eq_none (by omega)
    have hg : getE es k = none := by rw [HG.out, hnn]; rfl
    have hc := HNO.out w1 HS1.out.ext p (by omega)
    have HGG := Lib.hid hg
    clear hg hnn
    refine hc.mono ?_
    rintro e w2 ⟨rfl, hx2⟩
    have hS2 := HS1.out.step hx2
    have HS2 := Lib.hid hS2
    obtain ⟨c0, c1, c2, c3, c4, c5⟩ := hS2.b2.c6
    have f2 := hS2.b2.frozen
    have l2 := hS2.b2.lt
    clear hS2 hx2 hc
    go_wp2_with fail
    refine bodyPost_ret (v := .tuple #[aggV zeroV Sl.none Sl.none, .bool false]) (by simp [results, Tryz.results51, go_sem, c0, c1, c2, c3, c4, c5, l2]; exact ⟨rfl, rfl, rfl, rfl, rfl, rfl⟩) rfl ?_
    have hE := HS2.out.ext.putV (b := w.heap.size + 1 + 1) (by omega) 0 zeroV Sl.none Sl.none
    exact ⟨Sl.none, Sl.none, by rw [HGG.out]; rfl, hE.alloc _ _, by rw [HGG.out]; exact RV.flat _ _ _ _ _ _ rfl rfl (by decide)⟩
theorem get_nil (w : World) (k : ByteArray) : Calls Tryz.prog 51 #[.pointer none, .string k] w (GetPost none w) :=
  get_leaf (es := []) ⟨_, rfl⟩ (fun W _ => height_nil W) (fun W _ => (size_nil W).mono fun e w' ⟨h1, h2⟩ => ⟨h1, 0, h2.symm⟩) (fun W _ i e h => by simp at h) (fun W _ i _ => entry_nil W i) List.Pairwise.nil (by simp) k
theorem get_zero {w : World} {t : PT 0} (hn : IsN w (Lt w.heap.size) 0 t) (ok : OkT 0 t) (hs : Sorted (ents 0 t)) (k : ByteArray) : Calls Tryz.prog 51 #[ptr 0 t, .string k] w (GetPost (getE (ents 0 t) k) w) := by
  have ok8 : (ents 0 t).length ≤ 8 := ok
  exact get_leaf ⟨_, rfl⟩ (fun W hW => height_any (hn.ext hW)) (fun W hW => size_any (hn.ext hW) (Nat.le_trans ok8 (by decide))) (fun W hW i e h => entry_any (hn.ext hW) h) (fun W hW i h => entry_none (hn.ext hW) (.inr (Int.ofNat_le.2 h))) hs (Nat.le_trans ok8 (by decide)) k
set_option maxRecDepth 100000 in
set_option maxHeartbeats 1000000 in
theorem get_succ {h : Nat} {k : ByteArray}
    (ih : ∀ (w : World) (F : Nat → Prop) (t : PT h), (∀ b, F b → b < w.heap.size) → IsN w F h t → OkT h t → Sorted (ents h t) → (ents h t).length ≤ 1000000 → Calls Tryz.prog 51 #[ptr h t, .string k] w (GetPost (getE (ents h t) k) w))
    {w : World} {F : Nat → Prop} {t : PT (h + 1)} (hF : ∀ b, F b → b < w.heap.size) (hn : IsN w F (h + 1) t) (ok : OkT (h + 1) t) (hs : Sorted (ents (h + 1) t)) (hc : (ents (h + 1) t).length ≤ 1000000) :
    Calls Tryz.prog 51 #[ptr (h + 1) t, .string k] w (GetPost (getE (ents (h + 1) t) k) w) := by
  have hpos := kids_pos ok
  have hh : h + 1 < 1000000 := Nat.lt_of_lt_of_le (height_lt (h + 1) t ok (by have := ok.1; show 1 ≤ t.2.length; omega)) hc
  obtain ⟨kid, hkid, hA, hC⟩ := which_split (h := h) (ks := t.2) hs hpos (by have := ok.1; omega) k
  have hkm' := List.mem_of_getElem? hkid
  have hil := (List.getElem?_eq_some_iff.1 hkid).1
  have hlen8 := ok.2.1
  have hks : ∀ x ∈ t.2, IsN w F h x := hn.2.choose_spec.2.2
  have hkc : (ents h kid).length ≤ 1000000 := Nat.le_trans (by
    show _ ≤ (t.2.flatMap (ents h)).length
    rw [take_mid hkid]; simp only [List.flatMap_append, List.flatMap_cons, List.length_append]; omega) hc
  have hge : getE (ents (h + 1) t) k = getE (ents h kid) k := getE_kid hkid hA hC
  rw [hge]
  have hih : ∀ W, Ext w W → Calls Tryz.prog 51 #[ptr h kid, .string k] W (GetPost (getE (ents h kid) k) W) := fun W hW =>
    ih W F kid (fun b hb => Nat.lt_of_lt_of_le (hF b hb) hW.size) ((hks kid hkm').agree (hW.agree hF)) (ok.2.2 kid hkm').1 (kid_sorted hs kid hkm') hkc
  generalize getE (ents h kid) k = og at *
  clear hge
  have HF := Lib.hid hF
  have HN := Lib.hid hn
  have HS := Lib.hid hs
  have HP := Lib.hid hpos
  have HIH := Lib.hid hih
  have HKS := Lib.hid hks
  have HKID := Lib.hid hkid
  have hgt : (0 : Int) < (h : Int) + 1 := by omega
  clear hF hn ok hs hc hpos hih hks hkid hA hC ih hkc
  go_enter Tryz.func51, Tryz.ntmps51
  go_wp2_with fail
  generalize hW0 : World.alloc _ _ = W0
  obtain ⟨hx0, hz0, hb0, hb1, hb2⟩ := three_blocks w _ _ _ _ _ _ W0 hW0
  have hS0 : GetS w (ptr (h + 1) t) k W0 := ⟨hx0, hb0, hb1, hb2⟩
  have HS0 := Lib.hid hS0
  have q0 : W0.cell? ⟨w.heap.size, 0, none⟩ = some (ptr (h + 1) t) := hb0.cell 0
  clear hW0 hb0 hb1 hb2 hS0
  have hnW : IsN W0 F (h + 1) t := HN.out.agree (hx0.agree HF.out)
  refine (height_any hnW).mono ?_
  rintro e w1 ⟨rfl, rfl⟩
  have hkc := kids_any hnW (by omega)
  clear hnW
  go_wp2_with fail
  refine hkc.mono ?_
  rintro e w1 ⟨s', rfl, hown, hx1⟩
  have hS1 := HS0.out.step hx1
  have HS1 := Lib.hid hS1
  have hrd : Rd w1 (Lt w1.heap.size) 1 s' t.2.length (ptrs h t.2) := (Rd.of_own hown).mono fun i hi => hi.2
  obtain ⟨g, cap, rfl, hbg, hnc, hcm, hfil⟩ := own_block hown (by omega)
  obtain ⟨i, hi⟩ : ∃ i, whichK h t.2 k = i := ⟨_, rfl⟩
  have hwh : ∀ W, Ext w1 W → Calls Tryz.prog 77 #[.slice (some ⟨g, 0, none⟩) t.2.length cap, .string k] W fun e w' => e = .returned (.int .i64 i) ∧ Ext W w' := fun W hW => by
    rw [← hi]
    exact which_any (s := ⟨some ⟨g, 0, none⟩, cap⟩) ((hrd.agree (hW.agree fun _ h => h)).mono fun i hi => Nat.lt_of_lt_of_le hi hW.size) (fun x hx => (HKS.out x hx).agree ((hS1.ext.trans hW).agree HF.out)) (fun b hb => Nat.lt_of_lt_of_le (HF.out b hb) (hS1.ext.trans hW).size) HP.out k HS.out (by omega)
  have hkid := HKID.out
  rw [hi] at hkid hil
  obtain ⟨b, o, hba, hbl, -, -, hbc⟩ := hrd.ptr_at hkid
  obtain ⟨rfl, rfl⟩ : g = b ∧ 0 = o := by simpa using hba
  have kc : w1.cell? ⟨g, i, none⟩ = some (ptr h kid) := by simpa using hbc
  have k1 : w1.cell? ⟨w.heap.size + 1, 0, none⟩ = some (.string k) := hS1.b1.cell 0
  have hg1 : g < w1.heap.size := hbl
  have hgn : ¬ g = w.heap.size + 1 + 1 := by omega
  have hgn' : ¬ w.heap.size + 1 + 1 = g := by omega
  clear hz0
  have l1 : w.heap.size + 1 < w1.heap.size := hS1.b1.lt
  have hii : (i : Int) < (t.2.length : Int) := by omega
  have hi0 : (0 : Int) ≤ (i : Int) := by omega
  have HWH := Lib.hid hwh
  have HHI := Lib.hid hi
  clear hwh hi hkid hbc hba hfil hown hrd hx1 hx0 hS1 hkc q0
  go_wp2_with fail
  go_region_held3 (fun w' => w'.cell? ⟨g, i, none⟩ = some (ptr h kid) ∧ w'.cell? ⟨w.heap.size + 1, 0, none⟩ = some (.string k)) (first | (with_reducible exact ⟨g3, k3⟩) | (with_reducible exact ⟨g2, k2⟩) | go_keep)
    (first
      | (go_at_call 77; refine (HWH.out _ ?_).mono ?_; (exact ((Ext.refl _).drew)); rintro e w2 ⟨rfl, hx2⟩; have g2 := (hx2.cell (o := i) hg1).trans kc; have k2 := (hx2.cell (o := 0) l1).trans k1; have hg2 := Nat.lt_of_lt_of_le hg1 hx2.size; have l2 := Nat.lt_of_lt_of_le l1 hx2.size)
      | (go_at_call 51; refine (HIH.out _ ?_).mono ?_; (exact HS1.out.ext.trans (((Ext.refl _).drew).trans hx2)); rintro e w3 ⟨sl, so, rfl, hx3, hrv⟩; have g3 := (hx3.cell (o := i) hg2).trans g2; have k3 := (hx3.cell (o := 0) l2).trans k2; have hS3 := HS1.out.step ((((Ext.refl _).drew).trans hx2).trans hx3); obtain ⟨c0, c1, c2, c3, c4, c5⟩ := hS3.b2.c6; have f3 := hS3.b2.frozen; have HS3 := Lib.hid hS3; have HX3 := Lib.hid hx3; have HRV := Lib.hid hrv; have HX2 := Lib.hid hx2; clear hS3 hx3 hrv hx2))
  go_wp2_with fail
  refine bodyPost_ret (v := .tuple #[aggV (og.getD zeroV) sl so, .bool og.isSome]) (by simp [results, Tryz.results51, go_sem, c0, c1, c2, c3, c4, c5]) rfl ?_
  have hE := HS3.out.ext.putV (b := w.heap.size + 1 + 1) (by omega) 0 (og.getD zeroV) sl so
  have hb2 := HS1.out.b2.lt
  have hX2 := HX2.out.size
  have hX3 := HX3.out.size
  have hE1 := HS1.out.ext.size
  rw [World.size_drew] at hX2
  have hr2 : RV w3 (fun b => In w.heap.size w3.heap.size b ∧ b ≠ w.heap.size + 1 + 1) (og.getD zeroV) sl so := HRV.out.mono fun i hi => ⟨⟨by have := hi.1; omega, hi.2⟩, by have := hi.1; omega⟩
  have hr3 := hr2.agree (putV_agree w3 (w.heap.size + 1 + 1) 0 (og.getD zeroV) sl so (F := fun b => In w.heap.size w3.heap.size b ∧ b ≠ w.heap.size + 1 + 1) (fun h => h.2 rfl))
  exact ⟨sl, so, rfl, hE, hr3.mono fun i hi => ⟨hi.1.1, by have := hi.1.2; simpa using this⟩⟩
theorem get_any {k : ByteArray} : ∀ (h : Nat) (w : World) (F : Nat → Prop) (t : PT h), (∀ b, F b → b < w.heap.size) → IsN w F h t → OkT h t → Sorted (ents h t) → (ents h t).length ≤ 1000000 → Calls Tryz.prog 51 #[ptr h t, .string k] w (GetPost (getE (ents h t) k) w)
  | 0, w, F, t, hF, hn, ok, hs, _ => get_zero (hn.mono hF) ok hs k
  | h + 1, w, F, t, hF, hn, ok, hs, hc => get_succ (fun w F t a b c d e => get_any h w F t a b c d e) hF hn ok hs hc
theorem getPost_end {w w3 : World} {b lo : Nat} {og : Option Val} {sl so : Sl} (hE : Ext w w3) (hb : w.heap.size ≤ b) (hlt : b < lo) (hr : RV w3 (In lo w3.heap.size) (og.getD zeroV) sl so) :
    GetPost og w (.returned (.tuple #[aggV (og.getD zeroV) sl so, .bool og.isSome])) (putV w3 b 0 (og.getD zeroV) sl so) := by
  refine ⟨sl, so, rfl, hE.putV hb _ _ _ _, ?_⟩
  rw [putV_size]
  exact (hr.agree (putV_agree w3 b 0 (og.getD zeroV) sl so (by omega))).mono fun i hi => ⟨by omega, hi.2⟩
theorem two_blocks (w : World) (t0 t1 : TypeId) (c0 c1 : Array Value) : ∀ W, (w.alloc (.cells c0 t0)).alloc (.cells c1 t1) = W →
    Ext w W ∧ W.heap.size = w.heap.size + 2 ∧ Blk W w.heap.size t0 c0 ∧ Blk W (w.heap.size + 1) t1 c1 := by
  rintro W rfl
  refine ⟨((Ext.refl w).alloc _ _).alloc _ _, by simp, (Blk.new w t0 c0).alloc _, ?_⟩
  have h := Blk.new (w.alloc (.cells c0 t0)) t1 c1
  rw [World.size_alloc] at h; exact h
theorem getR_any {w : World} {F : Nat → Prop} {T : RT} (hF : ∀ b, F b → b < w.heap.size) (hT : IsT w F T) (ok : OkR T) (hc : (entsT T).length ≤ 1000000) (k : ByteArray) :
    Calls Tryz.prog 51 #[rootV T, .string k] w (GetPost (getE (entsT T) k) w) := by
  match T, hT, ok, hc with
  | none, _, _, _ => exact get_nil w k
  | some ⟨h, t⟩, hT, ok, hc => exact get_any h w F t hF hT ok.1 ok.2.2 hc
set_option maxRecDepth 100000 in
set_option maxHeartbeats 400000 in
theorem treeGet_any {w : World} {F : Nat → Prop} {T : RT} (hF : ∀ b, F b → b < w.heap.size) (hT : IsT w F T) (ok : OkR T) (hc : (entsT T).length ≤ 1000000) (k : ByteArray) :
    Calls Tryz.prog 20 #[treeV T, .string k] w (GetPost (getE (entsT T) k) w) := by
  have hcw : ∀ W, Ext w W → Calls Tryz.prog 51 #[rootV T, .string k] W (GetPost (getE (entsT T) k) W) := fun W hW =>
    getR_any (fun b hb => Nat.lt_of_lt_of_le (hF b hb) hW.size) (hT.agree (hW.agree hF)) ok hc k
  generalize getE (entsT T) k = og at *
  have HW := Lib.hid hcw
  clear hF hT ok hcw
  go_enter Tryz.func20, Tryz.ntmps20
  go_wp2_with fail
  generalize hW0 : World.alloc _ _ = W0
  obtain ⟨hx0, hz0, -, hb1⟩ := two_blocks w _ _ _ _ W0 hW0
  have HZ := Lib.hid hz0
  have HX0 := Lib.hid hx0
  clear hW0 hz0
  refine (HW.out W0 hx0).mono ?_
  rintro e w1 ⟨sl, so, rfl, hx1, hrv⟩
  have hb := hb1.ext hx1
  obtain ⟨c0, c1, c2, c3, c4, c5⟩ := hb.c6
  have f2 := hb.frozen
  have HX1 := Lib.hid hx1
  have HRV := Lib.hid hrv
  clear hb hb1 hx1 hrv hx0
  go_wp2_with fail
  refine bodyPost_ret (v := .tuple #[aggV (og.getD zeroV) sl so, .bool og.isSome]) (by simp [results, Tryz.results20, go_sem, c0, c1, c2, c3, c4, c5]) rfl ?_
  exact getPost_end (HX0.out.trans HX1.out) (b := w.heap.size + 1) (lo := W0.heap.size) (by omega) (by rw [HZ.out]; omega) HRV.out
end Go.Proofs.YtohajcflklejjaaGreat
namespace Go.Proofs.YtohajcflklejjaaGreat
open Go.RowKit
set_option linter.unusedVariables false
set_option linter.unusedSimpArgs false
theorem OE.append {w w' : World} {base : Nat} {s s' : Sl} {xs ys : List LE} {F : Nat → Prop} (ho : OE w base s xs) (hv : Vals w F ys) (hF : ∀ b, F b → base ≤ b ∧ b < w.heap.size ∧ s.row ≠ some b) (hf : (xs.length + ys.length) * 104 ≤ 140737488355328)
    (hown : w'.ownsRow base 47 7 (.slice s'.a (xs.length + ys.length) s'.c) (xs.length + ys.length) (flatE xs ++ flatE ys)) (hwr : Wr w w' s.row) (hs' : s'.row = s.row ∨ ∃ b, s'.row = some b ∧ w.heap.size ≤ b) : OE w' base s' (xs ++ ys) := by
  have hnew : ∀ b, b < w.heap.size → s.row ≠ some b → s'.row ≠ some b := fun b hb hn he => by
    rcases hs' with h | ⟨g, h, hg⟩
    · exact hn (h ▸ he)
    · rw [h] at he; simp at he; omega
  have hag : Agree (fun b => (base ≤ b ∧ b < w.heap.size) ∧ s.row ≠ some b) w w' := hwr.agree (fun i hi => hi.1.2) (fun k hk h => h.2 hk)
  refine ⟨by rw [List.length_append, flatE_app]; exact hown, fun x hx => ?_, by rw [List.length_append]; exact hf⟩
  have hup : ∀ i, ((base ≤ i ∧ i < w.heap.size) ∧ s.row ≠ some i) → (base ≤ i ∧ i < w'.heap.size) ∧ s'.row ≠ some i := fun i hi => ⟨⟨hi.1.1, Nat.lt_of_lt_of_le hi.1.2 hwr.grown.size⟩, hnew i hi.1.2 hi.2⟩
  rcases List.mem_append.1 hx with hx | hx
  · exact ⟨((ho.vals x hx).1.agree hag).mono hup, (ho.vals x hx).2⟩
  · exact ⟨(((hv x hx).1.mono fun i hi => ⟨⟨(hF i hi).1, (hF i hi).2.1⟩, (hF i hi).2.2⟩).agree hag).mono hup, (hv x hx).2⟩
theorem EntriesPost.base {es : List Ent} {w : World} {e : Ending} {w' : World} (h : EntriesPost es w e w') : ∃ (s : Sl) (ys : List LE), e = .returned (.slice s.a ys.length s.c) ∧ ys.map LE.ent = es ∧ OE w' w.heap.size s ys ∧ Ext w w' := h
theorem countR_any {w : World} {F : Nat → Prop} {T : RT} (hT : IsT w F T) : Calls Tryz.prog 54 #[rootV T] w fun e w' => e = .returned (.int .i64 (entsT T).length) ∧ w = w' := by
  match T, hT with
  | none, _ => exact count_nil w
  | some ⟨h, t⟩, hT => exact count_any hT
theorem treeLen_any {w : World} {F : Nat → Prop} {T : RT} (hF : ∀ b, F b → b < w.heap.size) (hT : IsT w F T) : Calls Tryz.prog 25 #[treeV T] w fun e w' => e = .returned (.int .i64 (entsT T).length) ∧ Ext w w' := by
  have hx : Ext w (w.alloc (.cells #[rootV T] 33)) := (Ext.refl w).alloc _ _
  have hc := countR_any (hT.agree (hx.agree hF))
  clear hF hT
  go_enter Tryz.func25, Tryz.ntmps25
  go_wp2_with fail
  refine hc.mono ?_
  rintro e w' ⟨rfl, rfl⟩
  go_wp2_with fail
  go_ret
  exact ⟨rfl, hx⟩
theorem treeRoot_any (w : World) (v : Value) : Calls Tryz.prog 74 #[.agg #[v]] w fun e w' => e = .returned v ∧ Ext w w' := by
  go_enter Tryz.func74, Tryz.ntmps74
  go_wp2_with fail
  go_ret
  exact ⟨rfl, (Ext.refl w).alloc _ _⟩
end Go.Proofs.YtohajcflklejjaaGreat
namespace Go.Proofs.YtohajcflklejjaaGreat
open Go.RowKit
set_option linter.unusedVariables false
set_option linter.unusedSimpArgs false
theorem Vals.agree' {w w' : World} {F : Nat → Prop} {xs : List LE} (h : Vals w F xs) (ha : Agree F w w') : Vals w' F xs := fun x hx => ⟨(h x hx).1.agree ha, (h x hx).2⟩
structure OV (w : World) (base : Nat) (F : Nat → Prop) (s : Sl) (xs : List LE) : Prop where
  own : w.ownsRow base 47 7 (.slice s.a xs.length s.c) xs.length (flatE xs)
  vals : Vals w F xs
  few : xs.length * 104 ≤ 140737488355328
theorem OV.nil (w : World) (base : Nat) (F : Nat → Prop) : OV w base F Sl.none [] := ⟨World.ownsRow_nil _ _ _ _, fun x h => by simp at h, by simp⟩
theorem OV.append {w w' : World} {base : Nat} {F : Nat → Prop} {s s' : Sl} {xs ys : List LE} (hF : ∀ b, F b → b < base) (hb : base ≤ w.heap.size) (ho : OV w base F s xs) (hv : Vals w F ys) (hf : (xs.length + ys.length) * 104 ≤ 140737488355328)
    (hown : w'.ownsRow base 47 7 (.slice s'.a (xs.length + ys.length) s'.c) (xs.length + ys.length) (flatE xs ++ flatE ys)) (hwr : Wr w w' s.row) : OV w' base F s' (xs ++ ys) := by
  have hag : Agree F w w' := hwr.agree (fun i hi => Nat.lt_of_lt_of_le (hF i hi) hb) (fun k hk hFk => by have := (own_row ho.own hk).1; have := hF k hFk; omega)
  refine ⟨by rw [List.length_append, flatE_app]; exact hown, fun x hx => ?_, by rw [List.length_append]; exact hf⟩
  rcases List.mem_append.1 hx with hx | hx
  · exact ⟨(ho.vals x hx).1.agree hag, (ho.vals x hx).2⟩
  · exact ⟨(hv x hx).1.agree hag, (hv x hx).2⟩
theorem OV.agree {w w' : World} {base : Nat} {F G : Nat → Prop} {s : Sl} {xs : List LE} (ho : OV w base F s xs) (ha : Agree G w w') (hF : ∀ b, F b → G b) (hr : ∀ b, s.row = some b → G b) : OV w' base F s xs :=
  ⟨own_agree ho.own ha hr, ho.vals.agree' (ha.mono hF), ho.few⟩
theorem OV.ext {w w' : World} {base : Nat} {F : Nat → Prop} {s : Sl} {xs : List LE} (ho : OV w base F s xs) (hx : Ext w w') (hF : ∀ b, F b → b < w.heap.size) : OV w' base F s xs :=
  ho.agree (hx.agree fun b (h : Lt w.heap.size b) => h) hF (fun b hb => (own_row ho.own hb).2)
theorem OV.es {w : World} {base : Nat} {F : Nat → Prop} {s : Sl} {xs : List LE} (ho : OV w base F s xs) (hF : ∀ b, F b → b < w.heap.size) : ES w (Lt w.heap.size) s xs :=
  ⟨(Rd.of_own ho.own).mono fun i hi => hi.2, fun x hx => ⟨(ho.vals x hx).1.mono hF, (ho.vals x hx).2⟩, ho.few⟩
end Go.Proofs.YtohajcflklejjaaGreat
namespace Go.Proofs.YtohajcflklejjaaGreat
open Go.RowKit
set_option linter.unusedVariables false
set_option linter.unusedSimpArgs false
structure MapAt (H : Nat → Prop) (w : World) (M : Nat) (es : List Ent) : Prop where
  hm : H M
  ex : ∃ s xs, Blk w M 76 #[.slice s.a xs.length s.c] ∧ ES w (NH H w) s xs ∧ xs.map LE.ent = es
theorem MapAt.st {H G : Nat → Prop} {w w' : World} {M : Nat} {es : List Ent} (h : MapAt H w M es) (k : St G w w') (hG : ∀ b, G b → H b) (hM : ¬ G M) : MapAt H w' M es := by
  obtain ⟨hm, s, xs, hb, hs, hx⟩ := h
  exact ⟨hm, s, xs, k.blk hb hM, (hs.agree (fun b hb => k.block b hb.1 fun hh => hb.2 (hG b hh))).mono fun i hi => ⟨Nat.lt_of_lt_of_le hi.1 k.size, hi.2⟩, hx⟩
theorem MapAt.ext {H : Nat → Prop} {w w' : World} {M : Nat} {es : List Ent} (h : MapAt H w M es) (k : Ext w w') : MapAt H w' M es :=
  h.st (k.st fun _ => False) (fun _ hb => hb.elim) (fun hb => hb)
theorem MapAt.more {H G : Nat → Prop} {w : World} {M : Nat} {es : List Ent} (h : MapAt H w M es) (hH : ∀ b, H b → G b) (hG : ∀ b, b < w.heap.size → G b → H b) : MapAt G w M es := by
  obtain ⟨hm, s, xs, hb, hs, hx⟩ := h
  exact ⟨hH M hm, s, xs, hb, hs.mono fun i hi => ⟨hi.1, fun hg => hi.2 (hG i hi.1 hg)⟩, hx⟩
end Go.Proofs.YtohajcflklejjaaGreat
namespace Go.Proofs.YtohajcflklejjaaGreat
open Go.RowKit
section
variable {P : Program} (w : World)
theorem Rd.block {w : World} {g : Nat} {t : TypeId} {cs : List Value} {size n : Nat} (hb : Blk w g t cs.toArray) (hm : n ≤ maxLen) (hl : cs.length = n * size) : Rd w (fun b => b = g) size ⟨some ⟨g, 0, none⟩, n⟩ n cs :=
  ⟨g, 0, .some _ _ _ _ (Nat.le_refl _) hm rfl, hl, fun j u hj => by rw [Nat.zero_add, hb.cell]; simpa using hj⟩
end
end Go.Proofs.YtohajcflklejjaaGreat
namespace Go.Proofs.YtohajcflklejjaaGreat
open Go.RowKit
set_option linter.unusedVariables false
set_option linter.unusedSimpArgs false
theorem Wr.cell0 {w w' w'' : World} {row : Option Nat} (h : Wr w' w'' row) (hx : Ext w w') {M : Nat} {o : Nat} (hn : row ≠ some M) (hl : M < w.heap.size) : w''.cell? ⟨M, o, none⟩ = w.cell? ⟨M, o, none⟩ ∧ M < w''.heap.size :=
  ⟨((h.agree (F := fun b => b = M) (fun i hi => by subst hi; exact Nat.lt_of_lt_of_le hl hx.size) (fun k hk e => hn (e ▸ hk))).cell rfl).trans (hx.cell hl), Nat.lt_of_lt_of_le hl (Nat.le_trans hx.size h.grown.size)⟩
section
variable {P : Program} {w : World}
end
end Go.Proofs.YtohajcflklejjaaGreat
namespace Go.Proofs.YtohajcflklejjaaGreat
open Go.RowKit
set_option linter.unusedVariables false
set_option linter.unusedSimpArgs false
theorem numbers_any (w : World) (a b : Int) : Calls Tryz.prog 86 #[.int .i64 a, .int .i64 b] w fun e w' => e = .returned (.int .i64 (numI a b)) ∧ w = w' := by
  by_cases h : a < b
  · have hn : numI a b = -1 := by simp [numI, h]
    rw [hn]
    go_enter Tryz.func86, Tryz.ntmps86
    go_wp2_with fail
    go_ret
    exact ⟨rfl, rfl⟩
  · by_cases h' : b < a
    · have hn : numI a b = 1 := by simp [numI, h, h']
      rw [hn]
      go_enter Tryz.func86, Tryz.ntmps86
      go_wp2_with fail
      go_ret
      exact ⟨rfl, rfl⟩
    · have hn : numI a b = 0 := by simp [numI, h, h']
      rw [hn]
      go_enter Tryz.func86, Tryz.ntmps86
      go_wp2_with fail
      go_ret
      exact ⟨rfl, rfl⟩
theorem bl_same (p x y : List UInt8) : Op.bytesLess (p ++ x) (p ++ y) = Op.bytesLess x y := by
  induction p with
  | nil => rfl
  | cons a p ih => simp [Op.bytesLess, ih]
theorem byte_get {a : ByteArray} {i : Nat} (h : i < a.size) : a.toList[i]? = some a[i] := by
  rw [ByteArray.toList_eq]
  obtain ⟨d⟩ := a
  have h : i < d.size := h
  show d.toList[i]? = some d[i]
  simp [h]
theorem toList_len (a : ByteArray) : a.toList.length = a.size := by
  rw [ByteArray.toList_eq]; rfl
theorem textI_diff {a b : ByteArray} {i : Nat} (ha : i < a.size) (hb : i < b.size) (hp : a.toList.take i = b.toList.take i) (hne : a[i] ≠ b[i]) : textI a b = numI (a[i].toNat : Int) (b[i].toNat : Int) := by
  have e1 : a.toList = a.toList.take i ++ a[i] :: a.toList.drop (i + 1) := by
    have h := byte_get ha
    obtain ⟨h1, h2⟩ := List.getElem?_eq_some_iff.1 h
    conv => lhs; rw [← List.take_append_drop i a.toList, List.drop_eq_getElem_cons h1, h2]
  have e2 : b.toList = a.toList.take i ++ b[i] :: b.toList.drop (i + 1) := by
    have h := byte_get hb
    obtain ⟨h1, h2⟩ := List.getElem?_eq_some_iff.1 h
    conv => lhs; rw [← List.take_append_drop i b.toList, List.drop_eq_getElem_cons h1, h2]
    rw [hp]
  unfold textI klt
  generalize a[i] = x at *
  generalize b[i] = y at *
  have key : ∀ (P u v A B : List UInt8), A = P ++ x :: u → B = P ++ y :: v → Op.bytesLess A B = decide (x < y) ∧ Op.bytesLess B A = decide (y < x) := by
    rintro P u v A B rfl rfl
    have hne' : ¬ x = y := hne
    have hne2 : ¬ y = x := fun h => hne h.symm
    rw [bl_same, bl_same]
    exact ⟨by simp [Op.bytesLess, hne'], by simp [Op.bytesLess, hne2]⟩
  obtain ⟨k1, k2⟩ := key _ _ _ _ _ e1 e2
  rw [k1, k2]
  unfold numI
  have h1 : (x < y) ↔ ((x.toNat : Int) < (y.toNat : Int)) := by rw [UInt8.lt_iff_toNat_lt]; omega
  have h2 : (y < x) ↔ ((y.toNat : Int) < (x.toNat : Int)) := by rw [UInt8.lt_iff_toNat_lt]; omega
  simp only [decide_eq_true_eq, h1, h2]
theorem textI_pre {a b : ByteArray} (hp : a.toList.take (min a.size b.size) = b.toList.take (min a.size b.size)) : textI a b = numI (a.size : Int) (b.size : Int) := by
  have la := toList_len a
  have lb := toList_len b
  rcases Nat.lt_trichotomy a.size b.size with h | h | h
  · have e : b.toList = a.toList ++ b.toList.drop a.size := by
      rw [Nat.min_eq_left (Nat.le_of_lt h), ← la, List.take_length, la] at hp
      conv => lhs; rw [← List.take_append_drop a.size b.toList, ← hp]
    obtain ⟨c, r, hr⟩ : ∃ c r, b.toList.drop a.size = c :: r := by
      cases hd : b.toList.drop a.size with
      | nil => have := congrArg List.length hd; rw [List.length_drop, lb] at this; simp at this; omega
      | cons c r => exact ⟨c, r, rfl⟩
    have k1 : klt a b = true := by
      unfold klt
      rw [e, hr]
      conv => lhs; arg 1; rw [← List.append_nil a.toList]
      rw [bl_same]; rfl
    unfold textI numI
    rw [if_pos k1, if_pos (by omega)]
  · have e : a = b := toList_inj (by rw [h, Nat.min_self, ← lb] at hp; rw [List.take_length] at hp; rw [← hp, lb, ← h, ← la, List.take_length])
    subst e
    rw [textI_self, numI_self]
  · have e : a.toList = b.toList ++ a.toList.drop b.size := by
      rw [Nat.min_eq_right (Nat.le_of_lt h)] at hp
      conv => lhs; rw [← List.take_append_drop b.size a.toList, hp, ← lb, List.take_length]
      rw [lb]
    obtain ⟨c, r, hr⟩ : ∃ c r, a.toList.drop b.size = c :: r := by
      cases hd : a.toList.drop b.size with
      | nil => have := congrArg List.length hd; rw [List.length_drop, la] at this; simp at this; omega
      | cons c r => exact ⟨c, r, rfl⟩
    have k1 : klt b a = true := by
      unfold klt
      rw [e, hr]
      conv => lhs; arg 1; rw [← List.append_nil b.toList]
      rw [bl_same]; rfl
    unfold textI numI
    rw [if_neg (by rw [klt_asymm k1]; simp), if_pos k1, if_neg (by omega), if_pos (by omega)]
set_option maxRecDepth 100000 in
theorem texts_any (w : World) (a b : ByteArray) (ha : a.size ≤ maxLen) (hb : b.size ≤ maxLen) : Calls Tryz.prog 87 #[.string a, .string b] w fun e w' => e = .returned (.int .i64 (textI a b)) ∧ Ext w w' := by
  have hn : ∀ W x y, Calls Tryz.prog 86 #[.int .i64 x, .int .i64 y] W fun e w' => e = .returned (.int .i64 (numI x y)) ∧ W = w' := numbers_any
  unfold maxLen at ha hb
  have HN := Lib.hid hn
  clear hn
  go_enter Tryz.func87, Tryz.ntmps87
  go_wp2_with fail
  go_loopw [5] (fun q wr => ∃ i : Nat, q = .int .i64 i ∧ i ≤ a.size ∧ i ≤ b.size ∧ a.toList.take i = b.toList.take i ∧ Ext w wr) (fun q _ => a.size - (intOf q).toNat)
  case atStart => exact ⟨0, rfl, Nat.zero_le _, Nat.zero_le _, rfl, Ext.refl w⟩
  case round =>
    obtain ⟨i, rfl, hia, hib, hp, hx⟩ := hrel
    by_cases h1 : i < a.size
    · by_cases h2 : i < b.size
      · have g1 : (i : Int) < (a.size : Int) := by omega
        have g2 : (i : Int) < (b.size : Int) := by omega
        have HP := Lib.hid hp
        have HX := Lib.hid hx
        clear hp hx
        go_wp2_with fail
        go_quiet (fail)
        go_wp2_with fail
        case _ =>
          have hne : (((a[i].toNat : Nat) : Int) != ((b[i].toNat : Nat) : Int)) = true := by assumption
          have hne' : a[i] ≠ b[i] := fun e => by rw [e] at hne; simp at hne
          have HT := Lib.hid (textI_diff h1 h2 HP.out hne')
          have hwa : wrap64 ((a[i].toNat : Nat) : Int) = ((a[i].toNat : Nat) : Int) := by have := a[i].toNat_lt; unfold wrap64; omega
          have hwb : wrap64 ((b[i].toNat : Nat) : Int) = ((b[i].toNat : Nat) : Int) := by have := b[i].toNat_lt; unfold wrap64; omega
          have HWA := Lib.hid hwa
          have HWB := Lib.hid hwb
          clear hne' hwa hwb
          go_quiet ((go_at_call 86; refine (HN.out _ _ _).mono ?_; rintro e w2 ⟨rfl, rfl⟩; exact ⟨rfl, _, rfl⟩))
          go_wp2_with fail
          go_ret
          rw [HT.out, HWA.out, HWB.out]
          exact ⟨rfl, (HX.out.drewN _).drewN _⟩
        case roundEnd =>
          have hne : (((a[i].toNat : Nat) : Int) != ((b[i].toNat : Nat) : Int)) = false := by assumption
          have he : a[i] = b[i] := UInt8.toNat_inj.1 (by have h := bne_eq_false_iff_eq.1 hne; omega)
          refine ⟨⟨i + 1, by simp, by omega, by omega, ?_, HX.out.drewN _⟩, ?_⟩
          · rw [List.take_add_one, List.take_add_one, byte_get h1, byte_get h2, HP.out, he]
          · simp [intOf]; omega
      · have g1 : (i : Int) < (a.size : Int) := by omega
        have g2 : ¬ (i : Int) < (b.size : Int) := by omega
        obtain rfl : i = b.size := by omega
        have HT := Lib.hid (textI_pre (a := a) (b := b) (by rw [Nat.min_eq_right hia]; exact hp))
        have HX := Lib.hid hx
        clear hp hx
        go_wp2_with fail
        refine (HN.out _ _ _).mono ?_
        rintro e w2 ⟨rfl, rfl⟩
        go_wp2_with fail
        go_ret
        rw [HT.out]
        exact ⟨rfl, HX.out⟩
    · have g1 : ¬ (i : Int) < (a.size : Int) := by omega
      obtain rfl : i = a.size := by omega
      have HT := Lib.hid (textI_pre (a := a) (b := b) (by rw [Nat.min_eq_left hib]; exact hp))
      have HX := Lib.hid hx
      clear hp hx
      go_wp2_with fail
      refine (HN.out _ _ _).mono ?_
      rintro e w2 ⟨rfl, rfl⟩
      go_wp2_with fail
      go_ret
      rw [HT.out]
      exact ⟨rfl, HX.out⟩
end Go.Proofs.YtohajcflklejjaaGreat
namespace Go.Proofs.YtohajcflklejjaaGreat
set_option linter.unusedVariables false
section
variable {P : Program} {ops : Array Oper} {Q : Exit → Act → World → Prop} {md : Region.Mode} {S : World → Prop}
theorem held_on {i : Nat} {oi : Oper} {d : Option Tmp} {v : Value} {fuel : Nat} {listed : Array Bool} {a : Act} {w : World} (hi : ops[i]? = some oi) (hd : oi.dst = d)
    (hs : Region.noSelect ops = true) (hf : Region.free md ops listed i = true) (hr : (Region.ready md ops listed).contains i = true)
    (hQ : ∀ c a w, Q (.panic c) (a.put d v) w → Q (.panic c) a w) (hw : Region.wanted oi (yielded ops a.tmps) = true) (hS : S w) (hy : ∀ w, S w → (execOp a.eval oi).run P w = .ok (.value v) w)
    (h : wpAnyH P md ops Q S fuel (listed.setIfInBounds i true) (a.put d v) w) : wpAnyH P md ops Q S (fuel + 1) listed a w := by
  subst hd
  exact wpAnyH_take hi hs hf hr hQ (.inl ⟨hw, hy⟩) hS h
theorem held_off {i : Nat} {oi : Oper} {d : Option Tmp} {fuel : Nat} {listed : Array Bool} {a : Act} {w : World} (hi : ops[i]? = some oi) (hd : oi.dst = d)
    (hs : Region.noSelect ops = true) (hf : Region.free md ops listed i = true) (hr : (Region.ready md ops listed).contains i = true)
    (hQ : ∀ c a w, Q (.panic c) (a.put d undef) w → Q (.panic c) a w) (hw : Region.wanted oi (yielded ops a.tmps) = false) (hS : S w)
    (h : wpAnyH P md ops Q S fuel (listed.setIfInBounds i true) (a.put d undef) w) : wpAnyH P md ops Q S (fuel + 1) listed a w := by
  subst hd
  exact wpAnyH_take hi hs hf hr hQ (.inr ⟨hw, rfl⟩) hS h
theorem held_call {i : Nat} {oi : Oper} {fuel : Nat} {listed : Array Bool} {a : Act} {w : World} (hr : Region.ready md ops listed = [i]) (hi : ops[i]? = some oi) (hw : Region.wanted oi (yielded ops a.tmps) = true)
    (h : ∀ K' : Act → World → Prop, Shut (∀ a w, S w → (S w → wpAnyH P md ops Q S fuel (listed.setIfInBounds i true) a w) → K' a w) → Oper.wp P oi a w K' Q) : wpAnyH P md ops Q S (fuel + 1) listed a w :=
  wpAnyH_ready hr (by simp) (AllReadyH.cons hi (fun K' hK => by rw [if_pos hw]; exact h K' hK) AllReadyH.nil)
end
end Go.Proofs.YtohajcflklejjaaGreat
namespace Go.Proofs.YtohajcflklejjaaGreat
open Go.RowKit
set_option linter.unusedVariables false
set_option linter.unusedSimpArgs false
def CmpPost (n : Int) (w : World) (e : Ending) (w' : World) : Prop := e = .returned (.int .i64 n) ∧ Ext w w'
theorem cmpL_drop {l l' : List Val} {j : Nat} {a b : Val} (ha : l[j]? = some a) (hb : l'[j]? = some b) : cmpL (l.drop j) (l'.drop j) = if cmpV a b ≠ 0 then cmpV a b else cmpL (l.drop (j + 1)) (l'.drop (j + 1)) := by
  obtain ⟨h1, rfl⟩ := List.getElem?_eq_some_iff.1 ha
  obtain ⟨h2, rfl⟩ := List.getElem?_eq_some_iff.1 hb
  rw [List.drop_eq_getElem_cons h1, List.drop_eq_getElem_cons h2]
  simp only [cmpL]
theorem cmpL_end {l l' : List Val} {j : Nat} (h : j = l.length ∨ j = l'.length) (h1 : j ≤ l.length) (h2 : j ≤ l'.length) : cmpL (l.drop j) (l'.drop j) = numI (l.length : Int) (l'.length : Int) := by
  by_cases ha : j = l.length
  · have e1 : l.drop j = [] := List.drop_eq_nil_iff.2 (by omega)
    rw [e1]
    simp only [cmpL, List.length_drop]
    unfold numI
    by_cases hb : l'.length - j = 0
    · rw [if_pos hb, if_neg (by omega), if_neg (by omega)]
    · rw [if_neg hb, if_pos (by omega)]
  · obtain ⟨a, r, hr⟩ : ∃ a r, l.drop j = a :: r := by
      cases hd : l.drop j with
      | nil => have := List.drop_eq_nil_iff.1 hd; omega
      | cons a r => exact ⟨a, r, rfl⟩
    have e2 : l'.drop j = [] := List.drop_eq_nil_iff.2 (by omega)
    rw [hr, e2]
    simp only [cmpL]
    unfold numI
    rw [if_neg (by omega), if_pos (by omega)]
theorem cmpM_drop {l l' : List Val} {k k' : List ByteArray} {j : Nat} {a b : Val} {x y : ByteArray} (ha : l[j]? = some a) (hb : l'[j]? = some b) (hx : k[j]? = some x) (hy : k'[j]? = some y) :
    cmpM (l.drop j) (k.drop j) (k'.drop j) (l'.drop j) = if textI x y ≠ 0 then textI x y else if cmpV a b ≠ 0 then cmpV a b else cmpM (l.drop (j + 1)) (k.drop (j + 1)) (k'.drop (j + 1)) (l'.drop (j + 1)) := by
  obtain ⟨h1, rfl⟩ := List.getElem?_eq_some_iff.1 ha
  obtain ⟨h2, rfl⟩ := List.getElem?_eq_some_iff.1 hb
  obtain ⟨h3, rfl⟩ := List.getElem?_eq_some_iff.1 hx
  obtain ⟨h4, rfl⟩ := List.getElem?_eq_some_iff.1 hy
  rw [List.drop_eq_getElem_cons h1, List.drop_eq_getElem_cons h2, List.drop_eq_getElem_cons h3, List.drop_eq_getElem_cons h4]
  simp only [cmpM, List.headD_cons, List.tail_cons]
  rfl
theorem cmpM_end {l l' : List Val} {k k' : List ByteArray} {j : Nat} (h : j = l.length ∨ j = l'.length) (h1 : j ≤ l.length) (h2 : j ≤ l'.length) : cmpM (l.drop j) (k.drop j) (k'.drop j) (l'.drop j) = numI (l.length : Int) (l'.length : Int) := by
  by_cases ha : j = l.length
  · have e1 : l.drop j = [] := List.drop_eq_nil_iff.2 (by omega)
    rw [e1]
    simp only [cmpM, List.length_drop]
    unfold numI
    by_cases hb : l'.length - j = 0
    · rw [if_pos hb, if_neg (by omega), if_neg (by omega)]
    · rw [if_neg hb, if_pos (by omega)]
  · obtain ⟨a, r, hr⟩ : ∃ a r, l.drop j = a :: r := by
      cases hd : l.drop j with
      | nil => have := List.drop_eq_nil_iff.1 hd; omega
      | cons a r => exact ⟨a, r, rfl⟩
    have e2 : l'.drop j = [] := List.drop_eq_nil_iff.2 (by omega)
    rw [hr, e2]
    simp only [cmpM]
    unfold numI
    rw [if_neg (by omega), if_pos (by omega)]
set_option maxRecDepth 100000 in
set_option maxHeartbeats 2000000 in
theorem cmp02_any (m : Nat) : ∀ (x y : Val), SizeOf.sizeOf x ≤ m → ∀ (w : World) (sl so sl' so' : Sl), RV w (Lt w.heap.size) x sl so → RV w (Lt w.heap.size) y sl' so' →
    Calls Tryz.prog 60 #[aggV x sl so, aggV y sl' so'] w (CmpPost (cmpV x y) w) := by
  induction m with
  | zero => intro d y hd; have := Val.sz_pos d; omega
  | succ m ih =>
  intro x y hd w sl so sl' so' h h'
  have HI := Lib.hid ih
  clear ih
  have hn : ∀ W a b, Calls Tryz.prog 86 #[.int .i64 a, .int .i64 b] W fun e w' => e = .returned (.int .i64 (numI a b)) ∧ W = w' := numbers_any
  have HN := Lib.hid hn
  clear hn
  obtain ⟨k, b, i, t, l, ok, ov⟩ := x
  obtain ⟨k', b', i', t', l', ok', ov'⟩ := y
  show Calls _ _ #[.agg #[.int .i64 k, .bool b, .int .i64 i, .string t, .slice sl.a l.length sl.c, .slice so.a ok.length so.c], .agg #[.int .i64 k', .bool b', .int .i64 i', .string t', .slice sl'.a l'.length sl'.c, .slice so'.a ok'.length so'.c]] _ _
  cases h with
  | mk bl fl bo fo cl co hl ho hov el rl ek eo ro bk bi bt nl no =>
  cases h' with
  | mk bl' fl' bo' fo' cl' co' hl' ho' hov' el' rl' ek' eo' ro' bk' bi' bt' nl' no' =>
  have hsl : ∀ (j : Nat) (d : Val), l[j]? = some d → SizeOf.sizeOf d ≤ m := fun j d hj => Nat.le_of_lt_succ (Nat.lt_of_lt_of_le (Val.sz_l hj) hd)
  have hso : ∀ (j : Nat) (d : Val), ov[j]? = some d → SizeOf.sizeOf d ≤ m := fun j d hj => Nat.le_of_lt_succ (Nat.lt_of_lt_of_le (Val.sz_o hj) hd)
  have HSL := Lib.hid hsl
  have HSO := Lib.hid hso
  have HEL := Lib.hid el
  have HRL := Lib.hid rl
  have HEK := Lib.hid ek
  have HEO := Lib.hid eo
  have HRO := Lib.hid ro
  have HOV := Lib.hid hov
  have HEL' := Lib.hid el'
  have HRL' := Lib.hid rl'
  have HEK' := Lib.hid ek'
  have HEO' := Lib.hid eo'
  have HRO' := Lib.hid ro'
  have HOV' := Lib.hid hov'
  have hcv : cmpV (.mk k b i t l ok ov) (.mk k' b' i' t' l' ok' ov') = if k ≠ k' then numI k k' else if k = 2 then boolI b b' else if k = 3 then numI i i' else if k = 4 then textI t t' else if k = 5 then cmpL l l' else if k = 6 then cmpM ov ok ok' ov' else 0 := by
    simp only [cmpV, Val.kind, Val.b, Val.i, Val.t, Val.l, Val.ok, Val.ov]
    rfl
  rw [hcv]
  clear hsl hso el rl ek eo ro hov hd el' rl' ek' eo' ro' hov' hcv
  by_cases hkk : k = k'
  · subst hkk
    have hkb : (k != k) = false := by simp
    rw [if_neg (by simp)]
    by_cases h2 : k = 2
    · subst h2
      rw [if_pos rfl]
      cases b <;> cases b' <;>
      · go_enter Tryz.func60, Tryz.ntmps60
        go_wp2_with fail
        go_ret
        exact ⟨rfl, ((Ext.refl w).alloc _ _).alloc _ _⟩
    by_cases h3 : k = 3
    · subst h3
      rw [if_neg h2, if_pos rfl]
      clear h2
      go_enter Tryz.func60, Tryz.ntmps60
      go_wp2_with fail
      refine (HN.out _ _ _).mono ?_
      rintro e w2 ⟨rfl, rfl⟩
      go_wp2_with fail
      go_ret
      exact ⟨rfl, ((Ext.refl w).alloc _ _).alloc _ _⟩
    by_cases h4 : k = 4
    · subst h4
      rw [if_neg h2, if_neg h3, if_pos rfl]
      clear h2 h3
      have hx := fun W => texts_any W t t' bt bt'
      have HTX := Lib.hid hx
      clear hx
      go_enter Tryz.func60, Tryz.ntmps60
      go_wp2_with fail
      refine (HTX.out _).mono ?_
      rintro e w2 ⟨rfl, hx⟩
      have HX := Lib.hid hx
      clear hx
      go_wp2_with fail
      go_ret
      exact ⟨rfl, (((Ext.refl w).alloc _ _).alloc _ _).trans HX.out⟩
    rw [if_neg h2, if_neg h3, if_neg h4]
    by_cases h5 : k = 5
    · subst h5
      rw [if_pos rfl]
      clear h2 h3 h4
      have hnl : l.length ≤ 140737488355328 := by omega
      have hnl' : l'.length ≤ 140737488355328 := by omega
      go_enter Tryz.func60, Tryz.ntmps60
      go_wp2_with fail
      generalize hW0 : World.alloc (World.alloc _ _) _ = W0
      obtain ⟨hx0, hz0, hb0, hb1⟩ := two_blocks w _ _ _ _ W0 hW0
      clear hW0
      have HX0 := Lib.hid hx0
      have HB0 := Lib.hid hb0
      have HB1 := Lib.hid hb1
      clear hx0 hb0 hb1
      go_loopw [5] (fun q wr => ∃ j : Nat, q = .int .i64 j ∧ j ≤ l.length ∧ j ≤ l'.length ∧ cmpL l l' = cmpL (l.drop j) (l'.drop j) ∧ Ext W0 wr) (fun q _ => l.length - (intOf q).toNat)
      case atStart => exact ⟨0, rfl, Nat.zero_le _, Nat.zero_le _, rfl, Ext.refl W0⟩
      case round =>
        obtain ⟨j, rfl, hjl, hjl', hp, hx⟩ := hrel
        obtain ⟨-, -, -, -, q4, -⟩ := (HB0.out.ext hx).c6
        obtain ⟨-, -, -, -, r4, -⟩ := (HB1.out.ext hx).c6
        have lw0 := (HB0.out.ext hx).lt
        have lw1 := (HB1.out.ext hx).lt
        have HP := Lib.hid hp
        have HX := Lib.hid hx
        by_cases h1 : j < l.length
        · by_cases h2 : j < l'.length
          · have g1 : (j : Int) < (l.length : Int) := by omega
            have g2 : (j : Int) < (l'.length : Int) := by omega
            obtain ⟨d, hd⟩ : ∃ d, l[j]? = some d := ⟨_, List.getElem?_eq_getElem h1⟩
            obtain ⟨d', hd'⟩ : ∃ d, l'[j]? = some d := ⟨_, List.getElem?_eq_getElem h2⟩
            have HD := Lib.hid (cmpL_drop hd hd')
            have hag : Agree (Lt w.heap.size) w wr := (HX0.out.trans hx).agree fun _ h => h
            obtain ⟨sa, sc⟩ := sl
            obtain ⟨sa', sc'⟩ := sl'
            obtain ⟨rfl, hlc, hcm⟩ := hl.eq (by omega)
            obtain ⟨rfl, hlc', hcm'⟩ := hl'.eq (by omega)
            have hbl := hl.fits (by omega)
            have hbl' := hl'.fits (by omega)
            obtain ⟨v0, v1, v2, v3, v4, v5⟩ := (HEL.out j d hd).agree hag hbl
            obtain ⟨v0', v1', v2', v3', v4', v5'⟩ := (HEL'.out j d' hd').agree hag hbl'
            have hic : ∀ W, Ext wr W → Calls Tryz.prog 60 #[aggV d (cl j).1 (cl j).2, aggV d' (cl' j).1 (cl' j).2] W (CmpPost (cmpV d d') W) := fun W hW =>
              HI.out d d' (HSL.out j d hd) W _ _ _ _ (((HRL.out j d hd).agree (hag.trans (hW.agree fun _ h => Nat.lt_of_lt_of_le h (Nat.le_trans HX0.out.size hx.size)))).mono fun i hi => Nat.lt_of_lt_of_le hi (Nat.le_trans HX0.out.size (Nat.le_trans hx.size hW.size)))
                (((HRL'.out j d' hd').agree (hag.trans (hW.agree fun _ h => Nat.lt_of_lt_of_le h (Nat.le_trans HX0.out.size hx.size)))).mono fun i hi => Nat.lt_of_lt_of_le hi (Nat.le_trans HX0.out.size (Nat.le_trans hx.size hW.size)))
            have lb : bl < wr.heap.size := Nat.lt_of_lt_of_le hbl (Nat.le_trans HX0.out.size hx.size)
            have lb' : bl' < wr.heap.size := Nat.lt_of_lt_of_le hbl' (Nat.le_trans HX0.out.size hx.size)
            clear hp hx hd hd' hag hbl hbl'
            go_wp2_with fail
            refine wp_region_held_drew (S := (fun w' => w'.cell? ⟨w.heap.size, 4, none⟩ = some (.slice (some ⟨bl, fl, none⟩) l.length sc) ∧ w'.cell? ⟨w.heap.size + 1, 4, none⟩ = some (.slice (some ⟨bl', fl', none⟩) l'.length sc') ∧ w'.cell? ⟨bl, fl + j * 6, none⟩ = some (.int .i64 d.kind) ∧ w'.cell? ⟨bl, fl + j * 6 + 1, none⟩ = some (.bool d.b) ∧ w'.cell? ⟨bl, fl + j * 6 + 2, none⟩ = some (.int .i64 d.i) ∧ w'.cell? ⟨bl, fl + j * 6 + 3, none⟩ = some (.string d.t) ∧ w'.cell? ⟨bl, fl + j * 6 + 4, none⟩ = some (.slice (cl j).1.a d.l.length (cl j).1.c) ∧ w'.cell? ⟨bl, fl + j * 6 + 5, none⟩ = some (.slice (cl j).2.a d.ok.length (cl j).2.c) ∧ w'.cell? ⟨bl', fl' + j * 6, none⟩ = some (.int .i64 d'.kind) ∧ w'.cell? ⟨bl', fl' + j * 6 + 1, none⟩ = some (.bool d'.b) ∧ w'.cell? ⟨bl', fl' + j * 6 + 2, none⟩ = some (.int .i64 d'.i) ∧ w'.cell? ⟨bl', fl' + j * 6 + 3, none⟩ = some (.string d'.t) ∧ w'.cell? ⟨bl', fl' + j * 6 + 4, none⟩ = some (.slice (cl' j).1.a d'.l.length (cl' j).1.c) ∧ w'.cell? ⟨bl', fl' + j * 6 + 5, none⟩ = some (.slice (cl' j).2.a d'.ok.length (cl' j).2.c))) (by kernel_rfl) (⟨q4, r4, v0, v1, v2, v3, v4, v5, v0', v1', v2', v3', v4', v5'⟩) (fun hHeld => ?_)
            refine held_on (i := 0) (d := (some 61)) (v := ?_) rfl rfl (by kernel_rfl) (by kernel_rfl) (by kernel_rfl) (fun _ _ _ h => h) (by rfl) hHeld ?_ ?_
            rotate_left
            focus (intro w hSw; (try dsimp only at hSw); go_simp; first | done | with_reducible rfl)
            try simp only [Act.put, List.setIfInBounds_toArray, List.set_cons_zero, List.set_cons_succ]
            refine held_on (i := 1) (d := (some 62)) (v := ?_) rfl rfl (by kernel_rfl) (by kernel_rfl) (by kernel_rfl) (fun _ _ _ h => h) (by rfl) hHeld ?_ ?_
            rotate_left
            focus (intro w hSw; (try dsimp only at hSw); go_simp; first | done | with_reducible rfl)
            try simp only [Act.put, List.setIfInBounds_toArray, List.set_cons_zero, List.set_cons_succ]
            refine held_on (i := 2) (d := (some 63)) (v := ?_) rfl rfl (by kernel_rfl) (by kernel_rfl) (by kernel_rfl) (fun _ _ _ h => h) (by rfl) hHeld ?_ ?_
            rotate_left
            focus (intro w hSw; (try dsimp only at hSw); go_simp; first | done | with_reducible rfl)
            try simp only [Act.put, List.setIfInBounds_toArray, List.set_cons_zero, List.set_cons_succ]
            refine held_on (i := 3) (d := (some 64)) (v := ?_) rfl rfl (by kernel_rfl) (by kernel_rfl) (by kernel_rfl) (fun _ _ _ h => h) (by rfl) hHeld ?_ ?_
            rotate_left
            focus (intro w hSw; (try dsimp only at hSw); go_simp; first | done | with_reducible rfl)
            try simp only [Act.put, List.setIfInBounds_toArray, List.set_cons_zero, List.set_cons_succ]
            refine held_on (i := 4) (d := (some 65)) (v := ?_) rfl rfl (by kernel_rfl) (by kernel_rfl) (by kernel_rfl) (fun _ _ _ h => h) (by rfl) hHeld ?_ ?_
            rotate_left
            focus (intro w hSw; (try dsimp only at hSw); go_simp; first | done | with_reducible rfl)
            try simp only [Act.put, List.setIfInBounds_toArray, List.set_cons_zero, List.set_cons_succ]
            refine held_on (i := 5) (d := (some 66)) (v := ?_) rfl rfl (by kernel_rfl) (by kernel_rfl) (by kernel_rfl) (fun _ _ _ h => h) (by rfl) hHeld ?_ ?_
            rotate_left
            focus (intro w hSw; (try dsimp only at hSw); go_simp; first | done | with_reducible rfl)
            try simp only [Act.put, List.setIfInBounds_toArray, List.set_cons_zero, List.set_cons_succ]
            refine held_on (i := 6) (d := (some 67)) (v := ?_) rfl rfl (by kernel_rfl) (by kernel_rfl) (by kernel_rfl) (fun _ _ _ h => h) (by rfl) hHeld ?_ ?_
            rotate_left
            focus (intro w hSw; (try dsimp only at hSw); go_simp; first | done | with_reducible rfl)
            try simp only [Act.put, List.setIfInBounds_toArray, List.set_cons_zero, List.set_cons_succ]
            refine held_on (i := 7) (d := (some 68)) (v := ?_) rfl rfl (by kernel_rfl) (by kernel_rfl) (by kernel_rfl) (fun _ _ _ h => h) (by rfl) hHeld ?_ ?_
            rotate_left
            focus (intro w hSw; (try dsimp only at hSw); go_simp; first | done | with_reducible rfl)
            try simp only [Act.put, List.setIfInBounds_toArray, List.set_cons_zero, List.set_cons_succ]
            refine held_on (i := 8) (d := (some 69)) (v := ?_) rfl rfl (by kernel_rfl) (by kernel_rfl) (by kernel_rfl) (fun _ _ _ h => h) (by rfl) hHeld ?_ ?_
            rotate_left
            focus (intro w hSw; (try dsimp only at hSw); go_simp; first | done | with_reducible rfl)
            try simp only [Act.put, List.setIfInBounds_toArray, List.set_cons_zero, List.set_cons_succ]
            refine held_on (i := 9) (d := (some 70)) (v := ?_) rfl rfl (by kernel_rfl) (by kernel_rfl) (by kernel_rfl) (fun _ _ _ h => h) (by rfl) hHeld ?_ ?_
            rotate_left
            focus (intro w hSw; (try dsimp only at hSw); go_simp; first | done | with_reducible rfl)
            try simp only [Act.put, List.setIfInBounds_toArray, List.set_cons_zero, List.set_cons_succ]
            refine held_call (i := 10) (by kernel_rfl) rfl (by rfl) (fun K hK => ?_)
            go_simp
            (refine (hic _ ((Ext.refl wr).drew)).mono ?_; rintro e w2 ⟨rfl, hx2⟩; replace hx2 := ((Ext.refl wr).drew).trans hx2)
            refine hK.out _ _ (⟨(hx2.cell lw0).trans q4, (hx2.cell lw1).trans r4, (hx2.cell lb).trans v0, (hx2.cell lb).trans v1, (hx2.cell lb).trans v2, (hx2.cell lb).trans v3, (hx2.cell lb).trans v4, (hx2.cell lb).trans v5, (hx2.cell lb').trans v0', (hx2.cell lb').trans v1', (hx2.cell lb').trans v2', (hx2.cell lb').trans v3', (hx2.cell lb').trans v4', (hx2.cell lb').trans v5'⟩) (fun hHeld => ?_)
            clear hK K
            try simp only [Act.put, List.setIfInBounds_toArray, List.set_cons_zero, List.set_cons_succ]
            refine held_on (i := 11) (d := (some 6)) (v := ?_) rfl rfl (by kernel_rfl) (by kernel_rfl) (by kernel_rfl) (fun _ _ _ h => h) (by rfl) hHeld ?_ ?_
            rotate_left
            focus (intro w hSw; (try dsimp only at hSw); go_simp; first | done | with_reducible rfl)
            try simp only [Act.put, List.setIfInBounds_toArray, List.set_cons_zero, List.set_cons_succ]
            refine wpAnyH_done (by kernel_rfl) ?_ _
            clear hHeld hic q4 r4 v0 v1 v2 v3 v4 v5 v0' v1' v2' v3' v4' v5'
            have HX2 := Lib.hid (HX.out.trans hx2)
            clear hx2
            by_cases hc : cmpV d d' = 0
            · have hcb : (cmpV d d' != 0) = false := by simp [hc]
              have HC := Lib.hid hc
              clear hc
              go_wp2_with fail
              go_roundw
              case rel => exact ⟨j + 1, by go_num, h1, h2, by rw [HP.out, HD.out, if_neg (by simp [HC.out])], HX2.out⟩
              case measure => simp [intOf]; omega
            · have hcb : (cmpV d d' != 0) = true := bne_iff_ne.2 hc
              have HC := Lib.hid hc
              clear hc
              go_wp2_with fail
              go_ret
              rw [HP.out, HD.out, if_pos HC.out]
              exact ⟨rfl, HX0.out.trans HX2.out⟩
          · have g1 : (j : Int) < (l.length : Int) := by omega
            have g2 : ¬ (j : Int) < (l'.length : Int) := by omega
            have HE := Lib.hid (cmpL_end (l := l) (l' := l') (j := j) (by omega) hjl hjl')
            clear hp hx
            go_wp2_with fail
            refine (HN.out _ _ _).mono ?_
            rintro e w2 ⟨rfl, rfl⟩
            go_wp2_with fail
            go_ret
            rw [HP.out, HE.out]
            exact ⟨rfl, HX0.out.trans HX.out⟩
        · have g1 : ¬ (j : Int) < (l.length : Int) := by omega
          have HE := Lib.hid (cmpL_end (l := l) (l' := l') (j := j) (by omega) hjl hjl')
          clear hp hx
          go_wp2_with fail
          refine (HN.out _ _ _).mono ?_
          rintro e w2 ⟨rfl, rfl⟩
          go_wp2_with fail
          go_ret
          rw [HP.out, HE.out]
          exact ⟨rfl, HX0.out.trans HX.out⟩
    by_cases h6 : k = 6
    · subst h6
      rw [if_neg h5, if_pos rfl]
      clear h2 h3 h4 h5
      have hnl : ok.length ≤ 140737488355328 := by omega
      have hnl' : ok'.length ≤ 140737488355328 := by omega
      go_enter Tryz.func60, Tryz.ntmps60
      go_wp2_with fail
      generalize hW0 : World.alloc (World.alloc _ _) _ = W0
      obtain ⟨hx0, hz0, hb0, hb1⟩ := two_blocks w _ _ _ _ W0 hW0
      clear hW0
      have HX0 := Lib.hid hx0
      have HB0 := Lib.hid hb0
      have HB1 := Lib.hid hb1
      clear hx0 hb0 hb1
      go_loopw [7] (fun q wr => ∃ j : Nat, q = .int .i64 j ∧ j ≤ ok.length ∧ j ≤ ok'.length ∧ cmpM ov ok ok' ov' = cmpM (ov.drop j) (ok.drop j) (ok'.drop j) (ov'.drop j) ∧ Ext W0 wr) (fun q _ => ok.length - (intOf q).toNat)
      case atStart => exact ⟨0, rfl, Nat.zero_le _, Nat.zero_le _, rfl, Ext.refl W0⟩
      case round =>
        obtain ⟨j, rfl, hjl, hjl', hp, hx⟩ := hrel
        obtain ⟨-, -, -, -, -, q5⟩ := (HB0.out.ext hx).c6
        obtain ⟨-, -, -, -, -, r5⟩ := (HB1.out.ext hx).c6
        have lw0 := (HB0.out.ext hx).lt
        have lw1 := (HB1.out.ext hx).lt
        have HP := Lib.hid hp
        have HX := Lib.hid hx
        by_cases h1 : j < ok.length
        · by_cases h2 : j < ok'.length
          · have g1 : (j : Int) < (ok.length : Int) := by omega
            have g2 : (j : Int) < (ok'.length : Int) := by omega
            obtain ⟨x, hxx⟩ : ∃ d, ok[j]? = some d := ⟨_, List.getElem?_eq_getElem h1⟩
            obtain ⟨x', hxx'⟩ : ∃ d, ok'[j]? = some d := ⟨_, List.getElem?_eq_getElem h2⟩
            obtain ⟨d, hd⟩ : ∃ d, ov[j]? = some d := ⟨_, List.getElem?_eq_getElem (by rw [HOV.out]; exact h1)⟩
            obtain ⟨d', hd'⟩ : ∃ d, ov'[j]? = some d := ⟨_, List.getElem?_eq_getElem (by rw [HOV'.out]; exact h2)⟩
            have HD := Lib.hid (cmpM_drop hd hd' hxx hxx')
            have hag : Agree (Lt w.heap.size) w wr := (HX0.out.trans hx).agree fun _ h => h
            obtain ⟨sa, sc⟩ := so
            obtain ⟨sa', sc'⟩ := so'
            obtain ⟨rfl, hlc, hcm⟩ := ho.eq (by omega)
            obtain ⟨rfl, hlc', hcm'⟩ := ho'.eq (by omega)
            have hbl := ho.fits (by omega)
            have hbl' := ho'.fits (by omega)
            obtain ⟨v0, v1, v2, v3, v4, v5⟩ := (HEO.out j d hd).agree hag hbl
            obtain ⟨v0', v1', v2', v3', v4', v5'⟩ := (HEO'.out j d' hd').agree hag hbl'
            have kx := (hag.cell hbl).trans (HEK.out j x hxx).1
            have kx' := (hag.cell hbl').trans (HEK'.out j x' hxx').1
            have htx := fun W => texts_any W x x' (HEK.out j x hxx).2 (HEK'.out j x' hxx').2
            have hic : ∀ W, Ext wr W → Calls Tryz.prog 60 #[aggV d (co j).1 (co j).2, aggV d' (co' j).1 (co' j).2] W (CmpPost (cmpV d d') W) := fun W hW =>
              HI.out d d' (HSO.out j d hd) W _ _ _ _ (((HRO.out j d hd).agree (hag.trans (hW.agree fun _ h => Nat.lt_of_lt_of_le h (Nat.le_trans HX0.out.size hx.size)))).mono fun i hi => Nat.lt_of_lt_of_le hi (Nat.le_trans HX0.out.size (Nat.le_trans hx.size hW.size)))
                (((HRO'.out j d' hd').agree (hag.trans (hW.agree fun _ h => Nat.lt_of_lt_of_le h (Nat.le_trans HX0.out.size hx.size)))).mono fun i hi => Nat.lt_of_lt_of_le hi (Nat.le_trans HX0.out.size (Nat.le_trans hx.size hW.size)))
            have lb : bo < wr.heap.size := Nat.lt_of_lt_of_le hbl (Nat.le_trans HX0.out.size hx.size)
            have lb' : bo' < wr.heap.size := Nat.lt_of_lt_of_le hbl' (Nat.le_trans HX0.out.size hx.size)
            have HT := Lib.hid htx
            have HIC := Lib.hid hic
            clear hp hx hd hd' hag hbl hbl' hxx hxx' htx hic
            go_wp2_with fail
            refine wp_region_held_drew (S := (fun w' => w'.cell? ⟨w.heap.size, 5, none⟩ = some (.slice (some ⟨bo, fo, none⟩) ok.length sc) ∧ w'.cell? ⟨w.heap.size + 1, 5, none⟩ = some (.slice (some ⟨bo', fo', none⟩) ok'.length sc') ∧ w'.cell? ⟨bo, fo + j * 7, none⟩ = some (.string x) ∧ w'.cell? ⟨bo', fo' + j * 7, none⟩ = some (.string x'))) (by kernel_rfl) (⟨q5, r5, kx, kx'⟩) (fun hHeld => ?_)
            refine held_on (i := 0) (d := (some 98)) (v := ?_) rfl rfl (by kernel_rfl) (by kernel_rfl) (by kernel_rfl) (fun _ _ _ h => h) (by rfl) hHeld ?_ ?_
            rotate_left
            focus (intro w hSw; (try dsimp only at hSw); go_simp; first | done | with_reducible rfl)
            try simp only [Act.put, List.setIfInBounds_toArray, List.set_cons_zero, List.set_cons_succ]
            refine held_on (i := 1) (d := (some 99)) (v := ?_) rfl rfl (by kernel_rfl) (by kernel_rfl) (by kernel_rfl) (fun _ _ _ h => h) (by rfl) hHeld ?_ ?_
            rotate_left
            focus (intro w hSw; (try dsimp only at hSw); go_simp; first | done | with_reducible rfl)
            try simp only [Act.put, List.setIfInBounds_toArray, List.set_cons_zero, List.set_cons_succ]
            refine held_on (i := 2) (d := (some 100)) (v := ?_) rfl rfl (by kernel_rfl) (by kernel_rfl) (by kernel_rfl) (fun _ _ _ h => h) (by rfl) hHeld ?_ ?_
            rotate_left
            focus (intro w hSw; (try dsimp only at hSw); go_simp; first | done | with_reducible rfl)
            try simp only [Act.put, List.setIfInBounds_toArray, List.set_cons_zero, List.set_cons_succ]
            refine held_on (i := 3) (d := (some 101)) (v := ?_) rfl rfl (by kernel_rfl) (by kernel_rfl) (by kernel_rfl) (fun _ _ _ h => h) (by rfl) hHeld ?_ ?_
            rotate_left
            focus (intro w hSw; (try dsimp only at hSw); go_simp; first | done | with_reducible rfl)
            try simp only [Act.put, List.setIfInBounds_toArray, List.set_cons_zero, List.set_cons_succ]
            refine held_on (i := 4) (d := (some 102)) (v := ?_) rfl rfl (by kernel_rfl) (by kernel_rfl) (by kernel_rfl) (fun _ _ _ h => h) (by rfl) hHeld ?_ ?_
            rotate_left
            focus (intro w hSw; (try dsimp only at hSw); go_simp; first | done | with_reducible rfl)
            try simp only [Act.put, List.setIfInBounds_toArray, List.set_cons_zero, List.set_cons_succ]
            refine held_on (i := 5) (d := (some 103)) (v := ?_) rfl rfl (by kernel_rfl) (by kernel_rfl) (by kernel_rfl) (fun _ _ _ h => h) (by rfl) hHeld ?_ ?_
            rotate_left
            focus (intro w hSw; (try dsimp only at hSw); go_simp; first | done | with_reducible rfl)
            try simp only [Act.put, List.setIfInBounds_toArray, List.set_cons_zero, List.set_cons_succ]
            refine held_on (i := 6) (d := (some 104)) (v := ?_) rfl rfl (by kernel_rfl) (by kernel_rfl) (by kernel_rfl) (fun _ _ _ h => h) (by rfl) hHeld ?_ ?_
            rotate_left
            focus (intro w hSw; (try dsimp only at hSw); go_simp; first | done | with_reducible rfl)
            try simp only [Act.put, List.setIfInBounds_toArray, List.set_cons_zero, List.set_cons_succ]
            refine held_on (i := 7) (d := (some 105)) (v := ?_) rfl rfl (by kernel_rfl) (by kernel_rfl) (by kernel_rfl) (fun _ _ _ h => h) (by rfl) hHeld ?_ ?_
            rotate_left
            focus (intro w hSw; (try dsimp only at hSw); go_simp; first | done | with_reducible rfl)
            try simp only [Act.put, List.setIfInBounds_toArray, List.set_cons_zero, List.set_cons_succ]
            refine held_on (i := 8) (d := (some 106)) (v := ?_) rfl rfl (by kernel_rfl) (by kernel_rfl) (by kernel_rfl) (fun _ _ _ h => h) (by rfl) hHeld ?_ ?_
            rotate_left
            focus (intro w hSw; (try dsimp only at hSw); go_simp; first | done | with_reducible rfl)
            try simp only [Act.put, List.setIfInBounds_toArray, List.set_cons_zero, List.set_cons_succ]
            refine held_on (i := 9) (d := (some 107)) (v := ?_) rfl rfl (by kernel_rfl) (by kernel_rfl) (by kernel_rfl) (fun _ _ _ h => h) (by rfl) hHeld ?_ ?_
            rotate_left
            focus (intro w hSw; (try dsimp only at hSw); go_simp; first | done | with_reducible rfl)
            try simp only [Act.put, List.setIfInBounds_toArray, List.set_cons_zero, List.set_cons_succ]
            refine held_on (i := 10) (d := (some 108)) (v := ?_) rfl rfl (by kernel_rfl) (by kernel_rfl) (by kernel_rfl) (fun _ _ _ h => h) (by rfl) hHeld ?_ ?_
            rotate_left
            focus (intro w hSw; (try dsimp only at hSw); go_simp; first | done | with_reducible rfl)
            try simp only [Act.put, List.setIfInBounds_toArray, List.set_cons_zero, List.set_cons_succ]
            refine held_on (i := 11) (d := (some 109)) (v := ?_) rfl rfl (by kernel_rfl) (by kernel_rfl) (by kernel_rfl) (fun _ _ _ h => h) (by rfl) hHeld ?_ ?_
            rotate_left
            focus (intro w hSw; (try dsimp only at hSw); go_simp; first | done | with_reducible rfl)
            try simp only [Act.put, List.setIfInBounds_toArray, List.set_cons_zero, List.set_cons_succ]
            refine held_call (i := 12) (by kernel_rfl) rfl (by rfl) (fun K hK => ?_)
            go_simp
            (refine (HT.out _).mono ?_; rintro e w2 ⟨rfl, hx1⟩; replace hx1 := ((Ext.refl wr).drew).trans hx1)
            refine hK.out _ _ (⟨(hx1.cell lw0).trans q5, (hx1.cell lw1).trans r5, (hx1.cell lb).trans kx, (hx1.cell lb').trans kx'⟩) (fun hHeld => ?_)
            clear hK K
            try simp only [Act.put, List.setIfInBounds_toArray, List.set_cons_zero, List.set_cons_succ]
            refine held_on (i := 13) (d := (some 8)) (v := ?_) rfl rfl (by kernel_rfl) (by kernel_rfl) (by kernel_rfl) (fun _ _ _ h => h) (by rfl) hHeld ?_ ?_
            rotate_left
            focus (intro w hSw; (try dsimp only at hSw); go_simp; first | done | with_reducible rfl)
            try simp only [Act.put, List.setIfInBounds_toArray, List.set_cons_zero, List.set_cons_succ]
            refine wpAnyH_done (by kernel_rfl) ?_ _
            clear hHeld
            have HX1 := Lib.hid hx1
            have HX2 := Lib.hid (HX.out.trans hx1)
            replace q5 := (hx1.cell lw0).trans q5; replace r5 := (hx1.cell lw1).trans r5; replace v0 := (hx1.cell lb).trans v0; replace v1 := (hx1.cell lb).trans v1; replace v2 := (hx1.cell lb).trans v2; replace v3 := (hx1.cell lb).trans v3; replace v4 := (hx1.cell lb).trans v4; replace v5 := (hx1.cell lb).trans v5; replace v0' := (hx1.cell lb').trans v0'; replace v1' := (hx1.cell lb').trans v1'; replace v2' := (hx1.cell lb').trans v2'; replace v3' := (hx1.cell lb').trans v3'; replace v4' := (hx1.cell lb').trans v4'; replace v5' := (hx1.cell lb').trans v5'; replace kx := (hx1.cell lb).trans kx; replace kx' := (hx1.cell lb').trans kx'
            replace lw0 := Nat.lt_of_lt_of_le lw0 hx1.size
            replace lw1 := Nat.lt_of_lt_of_le lw1 hx1.size
            replace lb := Nat.lt_of_lt_of_le lb hx1.size
            replace lb' := Nat.lt_of_lt_of_le lb' hx1.size
            clear hx1
            by_cases ht : textI x x' = 0
            · have htb : (textI x x' != 0) = false := by simp [ht]
              have HTT := Lib.hid ht
              clear ht
              go_wp2_with fail
              refine wp_region_held_drew (S := (fun w' => w'.cell? ⟨w.heap.size, 5, none⟩ = some (.slice (some ⟨bo, fo, none⟩) ok.length sc) ∧ w'.cell? ⟨w.heap.size + 1, 5, none⟩ = some (.slice (some ⟨bo', fo', none⟩) ok'.length sc') ∧ w'.cell? ⟨bo, fo + j * 7 + 1, none⟩ = some (.int .i64 d.kind) ∧ w'.cell? ⟨bo, fo + j * 7 + 1 + 1, none⟩ = some (.bool d.b) ∧ w'.cell? ⟨bo, fo + j * 7 + 1 + 2, none⟩ = some (.int .i64 d.i) ∧ w'.cell? ⟨bo, fo + j * 7 + 1 + 3, none⟩ = some (.string d.t) ∧ w'.cell? ⟨bo, fo + j * 7 + 1 + 4, none⟩ = some (.slice (co j).1.a d.l.length (co j).1.c) ∧ w'.cell? ⟨bo, fo + j * 7 + 1 + 5, none⟩ = some (.slice (co j).2.a d.ok.length (co j).2.c) ∧ w'.cell? ⟨bo', fo' + j * 7 + 1, none⟩ = some (.int .i64 d'.kind) ∧ w'.cell? ⟨bo', fo' + j * 7 + 1 + 1, none⟩ = some (.bool d'.b) ∧ w'.cell? ⟨bo', fo' + j * 7 + 1 + 2, none⟩ = some (.int .i64 d'.i) ∧ w'.cell? ⟨bo', fo' + j * 7 + 1 + 3, none⟩ = some (.string d'.t) ∧ w'.cell? ⟨bo', fo' + j * 7 + 1 + 4, none⟩ = some (.slice (co' j).1.a d'.l.length (co' j).1.c) ∧ w'.cell? ⟨bo', fo' + j * 7 + 1 + 5, none⟩ = some (.slice (co' j).2.a d'.ok.length (co' j).2.c))) (by kernel_rfl) (⟨q5, r5, v0, v1, v2, v3, v4, v5, v0', v1', v2', v3', v4', v5'⟩) (fun hHeld => ?_)
              refine held_on (i := 0) (d := (some 114)) (v := ?_) rfl rfl (by kernel_rfl) (by kernel_rfl) (by kernel_rfl) (fun _ _ _ h => h) (by rfl) hHeld ?_ ?_
              rotate_left
              focus (intro w hSw; (try dsimp only at hSw); go_simp; first | done | with_reducible rfl)
              try simp only [Act.put, List.setIfInBounds_toArray, List.set_cons_zero, List.set_cons_succ]
              refine held_on (i := 1) (d := (some 115)) (v := ?_) rfl rfl (by kernel_rfl) (by kernel_rfl) (by kernel_rfl) (fun _ _ _ h => h) (by rfl) hHeld ?_ ?_
              rotate_left
              focus (intro w hSw; (try dsimp only at hSw); go_simp; first | done | with_reducible rfl)
              try simp only [Act.put, List.setIfInBounds_toArray, List.set_cons_zero, List.set_cons_succ]
              refine held_on (i := 2) (d := (some 116)) (v := ?_) rfl rfl (by kernel_rfl) (by kernel_rfl) (by kernel_rfl) (fun _ _ _ h => h) (by rfl) hHeld ?_ ?_
              rotate_left
              focus (intro w hSw; (try dsimp only at hSw); go_simp; first | done | with_reducible rfl)
              try simp only [Act.put, List.setIfInBounds_toArray, List.set_cons_zero, List.set_cons_succ]
              refine held_on (i := 3) (d := (some 117)) (v := ?_) rfl rfl (by kernel_rfl) (by kernel_rfl) (by kernel_rfl) (fun _ _ _ h => h) (by rfl) hHeld ?_ ?_
              rotate_left
              focus (intro w hSw; (try dsimp only at hSw); go_simp; first | done | with_reducible rfl)
              try simp only [Act.put, List.setIfInBounds_toArray, List.set_cons_zero, List.set_cons_succ]
              refine held_on (i := 4) (d := (some 118)) (v := ?_) rfl rfl (by kernel_rfl) (by kernel_rfl) (by kernel_rfl) (fun _ _ _ h => h) (by rfl) hHeld ?_ ?_
              rotate_left
              focus (intro w hSw; (try dsimp only at hSw); go_simp; first | done | with_reducible rfl)
              try simp only [Act.put, List.setIfInBounds_toArray, List.set_cons_zero, List.set_cons_succ]
              refine held_on (i := 5) (d := (some 119)) (v := ?_) rfl rfl (by kernel_rfl) (by kernel_rfl) (by kernel_rfl) (fun _ _ _ h => h) (by rfl) hHeld ?_ ?_
              rotate_left
              focus (intro w hSw; (try dsimp only at hSw); go_simp; first | done | with_reducible rfl)
              try simp only [Act.put, List.setIfInBounds_toArray, List.set_cons_zero, List.set_cons_succ]
              refine held_on (i := 6) (d := (some 120)) (v := ?_) rfl rfl (by kernel_rfl) (by kernel_rfl) (by kernel_rfl) (fun _ _ _ h => h) (by rfl) hHeld ?_ ?_
              rotate_left
              focus (intro w hSw; (try dsimp only at hSw); go_simp; first | done | with_reducible rfl)
              try simp only [Act.put, List.setIfInBounds_toArray, List.set_cons_zero, List.set_cons_succ]
              refine held_on (i := 7) (d := (some 121)) (v := ?_) rfl rfl (by kernel_rfl) (by kernel_rfl) (by kernel_rfl) (fun _ _ _ h => h) (by rfl) hHeld ?_ ?_
              rotate_left
              focus (intro w hSw; (try dsimp only at hSw); go_simp; first | done | with_reducible rfl)
              try simp only [Act.put, List.setIfInBounds_toArray, List.set_cons_zero, List.set_cons_succ]
              refine held_on (i := 8) (d := (some 122)) (v := ?_) rfl rfl (by kernel_rfl) (by kernel_rfl) (by kernel_rfl) (fun _ _ _ h => h) (by rfl) hHeld ?_ ?_
              rotate_left
              focus (intro w hSw; (try dsimp only at hSw); go_simp; first | done | with_reducible rfl)
              try simp only [Act.put, List.setIfInBounds_toArray, List.set_cons_zero, List.set_cons_succ]
              refine held_on (i := 9) (d := (some 123)) (v := ?_) rfl rfl (by kernel_rfl) (by kernel_rfl) (by kernel_rfl) (fun _ _ _ h => h) (by rfl) hHeld ?_ ?_
              rotate_left
              focus (intro w hSw; (try dsimp only at hSw); go_simp; first | done | with_reducible rfl)
              try simp only [Act.put, List.setIfInBounds_toArray, List.set_cons_zero, List.set_cons_succ]
              refine held_on (i := 10) (d := (some 124)) (v := ?_) rfl rfl (by kernel_rfl) (by kernel_rfl) (by kernel_rfl) (fun _ _ _ h => h) (by rfl) hHeld ?_ ?_
              rotate_left
              focus (intro w hSw; (try dsimp only at hSw); go_simp; first | done | with_reducible rfl)
              try simp only [Act.put, List.setIfInBounds_toArray, List.set_cons_zero, List.set_cons_succ]
              refine held_on (i := 11) (d := (some 125)) (v := ?_) rfl rfl (by kernel_rfl) (by kernel_rfl) (by kernel_rfl) (fun _ _ _ h => h) (by rfl) hHeld ?_ ?_
              rotate_left
              focus (intro w hSw; (try dsimp only at hSw); go_simp; first | done | with_reducible rfl)
              try simp only [Act.put, List.setIfInBounds_toArray, List.set_cons_zero, List.set_cons_succ]
              refine held_call (i := 12) (by kernel_rfl) rfl (by rfl) (fun K hK => ?_)
              go_simp
              (refine (HIC.out _ (HX1.out.drew)).mono ?_; rintro e w3 ⟨rfl, hx2⟩; replace hx2 := ((Ext.refl w2).drew).trans hx2)
              refine hK.out _ _ (⟨(hx2.cell lw0).trans q5, (hx2.cell lw1).trans r5, (hx2.cell lb).trans v0, (hx2.cell lb).trans v1, (hx2.cell lb).trans v2, (hx2.cell lb).trans v3, (hx2.cell lb).trans v4, (hx2.cell lb).trans v5, (hx2.cell lb').trans v0', (hx2.cell lb').trans v1', (hx2.cell lb').trans v2', (hx2.cell lb').trans v3', (hx2.cell lb').trans v4', (hx2.cell lb').trans v5'⟩) (fun hHeld => ?_)
              clear hK K
              try simp only [Act.put, List.setIfInBounds_toArray, List.set_cons_zero, List.set_cons_succ]
              refine held_on (i := 13) (d := (some 9)) (v := ?_) rfl rfl (by kernel_rfl) (by kernel_rfl) (by kernel_rfl) (fun _ _ _ h => h) (by rfl) hHeld ?_ ?_
              rotate_left
              focus (intro w hSw; (try dsimp only at hSw); go_simp; first | done | with_reducible rfl)
              try simp only [Act.put, List.setIfInBounds_toArray, List.set_cons_zero, List.set_cons_succ]
              refine wpAnyH_done (by kernel_rfl) ?_ _
              clear hHeld q5 r5 v0 v1 v2 v3 v4 v5 v0' v1' v2' v3' v4' v5' kx kx'
              have HX3 := Lib.hid (HX2.out.trans hx2)
              clear hx2
              by_cases hc : cmpV d d' = 0
              · have hcb : (cmpV d d' != 0) = false := by simp [hc]
                have HC := Lib.hid hc
                clear hc
                go_wp2_with fail
                go_roundw
                case rel => exact ⟨j + 1, by go_num, h1, h2, by rw [HP.out, HD.out, if_neg (by simp [HTT.out]), if_neg (by simp [HC.out])], HX3.out⟩
                case measure => simp [intOf]; omega
              · have hcb : (cmpV d d' != 0) = true := bne_iff_ne.2 hc
                have HC := Lib.hid hc
                clear hc
                go_wp2_with fail
                go_ret
                rw [HP.out, HD.out, if_neg (by simp [HTT.out]), if_pos HC.out]
                exact ⟨rfl, HX0.out.trans HX3.out⟩
            · have htb : (textI x x' != 0) = true := bne_iff_ne.2 ht
              have HTT := Lib.hid ht
              clear ht
              go_wp2_with fail
              go_ret
              rw [HP.out, HD.out, if_pos HTT.out]
              exact ⟨rfl, HX0.out.trans HX2.out⟩
          · have g1 : (j : Int) < (ok.length : Int) := by omega
            have g2 : ¬ (j : Int) < (ok'.length : Int) := by omega
            have HE := Lib.hid (cmpM_end (l := ov) (l' := ov') (k := ok) (k' := ok') (j := j) (by rw [HOV.out, HOV'.out]; omega) (by rw [HOV.out]; exact hjl) (by rw [HOV'.out]; exact hjl'))
            clear hp hx
            go_wp2_with fail
            refine (HN.out _ _ _).mono ?_
            rintro e w2 ⟨rfl, rfl⟩
            go_wp2_with fail
            go_ret
            rw [HP.out, HE.out, HOV.out, HOV'.out]
            exact ⟨rfl, HX0.out.trans HX.out⟩
        · have g1 : ¬ (j : Int) < (ok.length : Int) := by omega
          have HE := Lib.hid (cmpM_end (l := ov) (l' := ov') (k := ok) (k' := ok') (j := j) (by rw [HOV.out, HOV'.out]; omega) (by rw [HOV.out]; exact hjl) (by rw [HOV'.out]; exact hjl'))
          clear hp hx
          go_wp2_with fail
          refine (HN.out _ _ _).mono ?_
          rintro e w2 ⟨rfl, rfl⟩
          go_wp2_with fail
          go_ret
          rw [HP.out, HE.out, HOV.out, HOV'.out]
          exact ⟨rfl, HX0.out.trans HX.out⟩
    · rw [if_neg h5, if_neg h6]
      have g2 : (k == 2) = false := beq_eq_false_iff_ne.2 h2
      have g3 : (k == 3) = false := beq_eq_false_iff_ne.2 h3
      have g4 : (k == 4) = false := beq_eq_false_iff_ne.2 h4
      have g5 : (k == 5) = false := beq_eq_false_iff_ne.2 h5
      have g6 : (k == 6) = false := beq_eq_false_iff_ne.2 h6
      clear h2 h3 h4 h5 h6
      go_enter Tryz.func60, Tryz.ntmps60
      go_wp2_with fail
      go_ret
      exact ⟨rfl, ((Ext.refl w).alloc _ _).alloc _ _⟩
  · have hkb : (k != k') = true := bne_iff_ne.2 hkk
    rw [if_pos hkk]
    clear hkk
    go_enter Tryz.func60, Tryz.ntmps60
    go_wp2_with fail
    refine (HN.out _ _ _).mono ?_
    rintro e w2 ⟨rfl, rfl⟩
    go_wp2_with fail
    go_ret
    exact ⟨rfl, ((Ext.refl w).alloc _ _).alloc _ _⟩
end Go.Proofs.YtohajcflklejjaaGreat
namespace Go.Proofs.YtohajcflklejjaaGreat
open Go.RowKit
set_option linter.unusedVariables false
inductive BuiltR : List Ent → RT → Prop
  | nil : BuiltR [] none
  | snoc {es : List Ent} {T T' : RT} {B : Nat} {k : ByteArray} {v : Val} (h : BuiltR es T) (hp : PutR B k v T T') : BuiltR (es ++ [(k, v)]) T'
def putAll (es : List Ent) (l : List Ent) : List Ent := l.foldl (fun m e => insE m e.1 e.2) es
theorem putAll_snoc (es l : List Ent) (e : Ent) : putAll es (l ++ [e]) = insE (putAll es l) e.1 e.2 := by simp [putAll]
theorem putAll_len (l : List Ent) : ∀ es : List Ent, (putAll es l).length ≤ es.length + l.length := by
  induction l with
  | nil => intro es; exact Nat.le_refl _
  | cons a l ih =>
    intro es
    have := ih (insE es a.1 a.2)
    have h2 := insE_len es a.1 a.2
    simp only [putAll, List.foldl_cons, List.length_cons] at *
    omega
theorem BuiltR.both {l : List Ent} {T : RT} (h : BuiltR l T) : (OkR T) ∧ entsT T = putAll [] l := by
  induction h with
  | nil => exact ⟨trivial, rfl⟩
  | snoc h hp ih => exact ⟨hp.ok ih.1, by rw [hp.ents ih.1, ih.2, putAll_snoc]⟩
end Go.Proofs.YtohajcflklejjaaGreat
namespace Go.Proofs.YtohajcflklejjaaGreat
open Go.RowKit
set_option linter.unusedVariables false
set_option linter.unusedSimpArgs false
def BuildPost (es : List Ent) (w : World) (e : Ending) (w' : World) : Prop :=
  ∃ T, e = .returned (treeV T) ∧ BuiltR es T ∧ IsT w' (In w.heap.size w'.heap.size) T ∧ Ext w w'
theorem rootV_ptr (T : RT) : ∃ p, rootV T = .pointer p := by
  match T with
  | none => exact ⟨_, rfl⟩
  | some ⟨h, t⟩ => exact ⟨_, rfl⟩
theorem ES.ext {w w' : World} {s : Sl} {xs : List LE} (h : ES w (Lt w.heap.size) s xs) (he : Ext w w') : ES w' (Lt w'.heap.size) s xs := (h.agree (he.agree fun _ h => h)).mono fun _ hi => Nat.lt_of_lt_of_le hi he.size
set_option maxRecDepth 100000 in
set_option maxHeartbeats 1000000 in
theorem build_any {w : World} {s : Sl} {xs : List LE} (hs : ES w (Lt w.heap.size) s xs) (hl : xs.length ≤ 100000) : Calls Tryz.prog 17 #[.slice s.a xs.length s.c] w (BuildPost (xs.map LE.ent) w) := by
  have HS := Lib.hid hs
  clear hs
  go_enter Tryz.func17, Tryz.ntmps17
  go_wp2_with fail
  generalize hW0 : World.alloc (World.alloc _ _) _ = W0
  obtain ⟨hxx, hzz, hb0, hb1⟩ := two_blocks w _ _ _ _ W0 hW0
  clear hW0
  go_loopw [8] (fun i wr => ∃ (j : Nat) (T : RT) (p : Option Addr), j ≤ xs.length ∧ i = .int .i64 j ∧ Ext w wr ∧ Blk wr w.heap.size 33 #[.pointer none] ∧ Blk wr (w.heap.size + 1) 33 #[.pointer p] ∧ Hid (rootV T = .pointer p) ∧ BuiltR ((xs.take j).map LE.ent) T ∧ IsT wr (In (w.heap.size + 2) wr.heap.size) T)
    (fun i _ => xs.length - (intOf i).toNat)
  case atStart => exact ⟨0, none, none, Nat.zero_le _, rfl, hxx, hb0, hb1, Lib.hid rfl, .nil, trivial⟩
  case round =>
    obtain ⟨j, T, p, hj, rfl, hx, hR, hS, HP, hB, hT⟩ := hrel
    clear hxx hzz hb0 hb1
    have HX := Lib.hid hx
    have HR := Lib.hid hR
    have HB := Lib.hid hB
    have HT := Lib.hid hT
    have HSS := Lib.hid hS
    have c0 : wr.cell? ⟨w.heap.size + 1, 0, none⟩ = some (.pointer p) := hS.cell 0
    have fS := hS.frozen
    have lS := hS.lt
    by_cases hlt : j < xs.length
    · obtain ⟨x, hxj⟩ : ∃ x, xs[j]? = some x := ⟨_, List.getElem?_eq_getElem hlt⟩
      obtain ⟨b, o, ha, hbl, hlc, hcm, k0, hv, hrv, hkm⟩ := (HS.out.ext hx).at hxj
      obtain ⟨v0, v1, v2, v3, v4, v5⟩ := hv.m
      have hil' : (j : Int) < (xs.length : Int) := by omega
      have hok := hB.both
      have hpt : ∀ W, Ext wr W → Calls Tryz.prog 46 #[.agg #[.pointer p], .string x.k, aggV x.v x.sl x.so] W (PutPost (In (w.heap.size + 2) wr.heap.size) T x.k x.v W) := fun W hW => by
        rw [← HP.out]
        exact put_any (fun b hb => Nat.lt_of_lt_of_le hb.2 hW.size) (hT.agree (hW.agree fun b hb => hb.2)) hok.1 (by
          rw [hok.2]
          have := putAll_len ((xs.take j).map LE.ent) []
          simp only [List.length_map, List.length_take, List.length_nil] at this
          omega) hkm ((hrv.agree (hW.agree fun b hb => hb)).mono fun b hb => Nat.lt_of_lt_of_le hb hW.size)
      obtain ⟨sa, sc⟩ := s
      dsimp only at ha
      subst ha
      have HPT := Lib.hid hpt
      have HXJ := Lib.hid hxj
      clear hx hR hS hB hT hxj hv hrv hok hpt
      go_wp2_with fail
      refine (HPT.out _ ((Ext.refl wr).alloc _ _)).mono ?_
      rintro e w2 ⟨T2, rfl, hp2, hT2, hx2⟩
      obtain ⟨p2, hq2⟩ := rootV_ptr T2
      have HQ2 := Lib.hid hq2
      dsimp only [treeV]
      rw [hq2]
      clear hq2
      have hX2 : Ext wr w2 := ((Ext.refl wr).alloc _ _).trans hx2
      have d0 : w2.cell? ⟨w.heap.size + 1, 0, none⟩ = some (.pointer p) := (hX2.cell lS).trans c0
      have f2 : ∀ o, w2.frozen? ⟨w.heap.size + 1, o, none⟩ = false := fun o => (hX2.frozen lS).trans (fS o)
      have hE := (HX.out.trans hX2).setCell (p := ⟨w.heap.size + 1, 0, none⟩) (show w.heap.size ≤ w.heap.size + 1 by omega) (.pointer p2)
      have hR2 := (HR.out.ext hX2).far (p := ⟨w.heap.size + 1, 0, none⟩) (by simp) (.pointer p2)
      have hS2 : Blk (w2.setCell ⟨w.heap.size + 1, 0, none⟩ (.pointer p2)) (w.heap.size + 1) 33 #[.pointer p2] := (HSS.out.ext hX2).set_ 0 _
      have hT3 : IsT (w2.setCell ⟨w.heap.size + 1, 0, none⟩ (.pointer p2)) (In (w.heap.size + 2) (w2.setCell ⟨w.heap.size + 1, 0, none⟩ (.pointer p2)).heap.size) T2 := by
        have hs2 := hX2.size
        have hlt := lS
        have hm : ∀ i, Up (In (w.heap.size + 2) wr.heap.size) (wr.alloc (.cells #[.string x.k, .int .i64 x.v.kind, .bool x.v.b, .int .i64 x.v.i, .string x.v.t, .slice x.sl.a x.v.l.length x.sl.c, .slice x.so.a x.v.ok.length x.so.c] 47)) w2 i → In (w.heap.size + 2) w2.heap.size i := fun i hi => by
          rcases hi with hi | hi
          · exact ⟨hi.1, Nat.lt_of_lt_of_le hi.2 hs2⟩
          · have := hi.1
            simp at this
            exact ⟨by omega, hi.2⟩
        refine ((hT2.mono hm).agree (Agree.setCell w2 ⟨w.heap.size + 1, 0, none⟩ _ (fun h => by have h1 : w.heap.size + 2 ≤ w.heap.size + 1 := h.1; omega))).mono fun i hi => ⟨hi.1, by simpa using hi.2⟩
      have HB2 := Lib.hid (BuiltR.snoc HB.out hp2)
      have H1 := Lib.hid hE
      have H2 := Lib.hid hR2
      have H3 := Lib.hid hS2
      have H4 := Lib.hid hT3
      clear hp2 hT2 hx2 hX2 hE hR2 hS2 hT3
      go_wp2_with fail
      go_roundw
      case rel => exact ⟨j + 1, T2, p2, hlt, by go_num, H1.out, H2.out, H3.out, HQ2, by rw [List.take_add_one, HXJ.out, List.map_append]; exact HB2.out, H4.out⟩
      case measure => simp [intOf]; omega
    · obtain rfl : j = xs.length := by omega
      have r0 : wr.cell? ⟨w.heap.size, 0, none⟩ = some (.pointer none) := hR.cell 0
      have fR := hR.frozen
      clear hx hR hS hB hT
      go_wp2_with fail
      have q0 : (wr.setCell ⟨w.heap.size, 0, none⟩ (.pointer p)).cell? ⟨w.heap.size, 0, none⟩ = some (.pointer p) := World.cell?_setCell_same wr _ _ r0
      refine bodyPost_ret (v := .agg #[.pointer p]) (by simp [results, Tryz.results17, go_sem, q0]) rfl ?_
      refine ⟨T, by rw [treeV, HP.out], by have := HB.out; rwa [List.take_length] at this, ?_, HX.out.setCell (p := ⟨w.heap.size, 0, none⟩) (Nat.le_refl _) _⟩
      exact (HT.out.agree (Agree.setCell wr ⟨w.heap.size, 0, none⟩ _ (fun h => by have h1 : w.heap.size + 2 ≤ w.heap.size := h.1; omega))).mono fun i hi => ⟨by have := hi.1; omega, by simpa using hi.2⟩
end Go.Proofs.YtohajcflklejjaaGreat
namespace Go.Proofs.YtohajcflklejjaaGreat
open Go.RowKit
set_option linter.unusedVariables false
inductive DelT (B : Nat) (k : ByteArray) : RT → RT → Prop
  | no {T : RT} (h : getE (entsT T) k = none) : DelT B k T T
  | same {h : Nat} {t u : PT h} (hg : (getE (ents h t) k).isSome = true) (hd : DelR B k h t u) (hp : 0 < (ents h u).length) (h2 : h = 0 ∨ 2 ≤ size h u) : DelT B k (some ⟨h, t⟩) (some ⟨h, u⟩)
  | gone {t u : PT 0} (hg : (getE (ents 0 t) k).isSome = true) (hd : DelR B k 0 t u) (h0 : ents 0 u = []) : DelT B k (some ⟨0, t⟩) none
  | down {h : Nat} {t : PT (h + 1)} {u : PT h} (hg : (getE (ents (h + 1) t) k).isSome = true) (hd : DelK B k h (DelR B k h) t.2 [u]) : DelT B k (some ⟨h + 1, t⟩) (some ⟨h, u⟩)
theorem DelT.mono {A B : Nat} (hAB : A ≤ B) {k : ByteArray} {T T' : RT} (hd : DelT B k T T') : DelT A k T T' := by
  cases hd with
  | no h => exact .no h
  | same hg hd hp h2 => exact .same hg (hd.mono hAB) hp h2
  | gone hg hd h0 => exact .gone hg (hd.mono hAB) h0
  | down hg hd => exact .down hg (hd.mono hAB fun _ _ hr => hr.mono hAB)
theorem getE_entsT (h : Nat) (t : PT h) : entsT (some ⟨h, t⟩) = Proofs.YtohajcflklejjaaGreat.ents h t := rfl
theorem DelT.ents {B : Nat} {k : ByteArray} {T T' : RT} (hd : DelT B k T T') (ok : OkR T) : entsT T' = delE (entsT T) k := by
  cases hd with
  | no h => exact (delE_none h).symm
  | same hg hd hp h2 => exact hd.ents ok.1 ok.2.2
  | gone hg hd h0 => exact h0.symm.trans (hd.ents ok.1 ok.2.2)
  | down hg hd =>
    rename_i h t u
    have ok1 := ok.1
    have := hd.ents ok.2.2 (kids_pos ok1) (by have := ok1.1; omega) fun x y hx hr => hr.ents (ok1.2.2 x hx).1 (kid_sorted ok.2.2 x hx)
    rw [List.flatMap_cons, List.flatMap_nil, List.append_nil] at this
    exact this
theorem delK_root {B : Nat} {k : ByteArray} {h : Nat} {t : PT (h + 1)} {ks' : List (PT h)} (hd : DelK B k h (DelR B k h) t.2 ks') (ok : OkT (h + 1) t) (hs : Sorted (ents (h + 1) t)) (hg : (getE (ents (h + 1) t) k).isSome = true) :
    (∀ u ∈ ks', OkT h u ∧ 4 ≤ size h u) ∧ ks'.length ≤ t.2.length ∧ t.2.length ≤ ks'.length + 1 := by
  refine hd.ok ok.2.2 ok.1 fun x y hx hxk hr => ?_
  obtain ⟨kid2, hk2, hA, hC⟩ := which_split (h := h) (ks := t.2) hs (kids_pos ok) (by have := ok.1; omega) k
  rw [hxk] at hk2
  simp only [Option.some.injEq] at hk2
  subst hk2
  have := hr.ok (ok.2.2 x hx).1 (ok.2.2 x hx).2 (kid_sorted hs x hx) (by rw [← getE_kid hxk hA hC]; exact hg)
  exact ⟨this.1, this.2.1⟩
theorem DelT.ok {B : Nat} {k : ByteArray} {T T' : RT} (hd : DelT B k T T') (ok : OkR T) : OkR T' := by
  have hs : Sorted (entsT T') := by rw [hd.ents ok]; exact delE_sorted ok.sorted k
  cases hd with
  | no h => exact ok
  | same hg hd hp h2 =>
    rename_i h t u
    cases h with
    | zero =>
      have h1 := hd.1
      have : (delE t.2 k).length ≤ t.2.length := (delE_sublist t.2 k).length_le
      have o : t.2.length ≤ 8 := ok.1
      exact ⟨show u.2.length ≤ 8 by rw [h1]; omega, hp, hs⟩
    | succ h =>
      obtain ⟨h1, -⟩ := hd
      obtain ⟨a, b, c⟩ := delK_root h1 ok.1 ok.2.2 hg
      have h2 : 2 ≤ u.2.length := h2.resolve_left (by omega)
      have o8 := ok.1.2.1
      exact ⟨⟨h2, by omega, a⟩, show 1 ≤ u.2.length by omega, hs⟩
  | gone hg hd h0 => trivial
  | down hg hd =>
    obtain ⟨a, b, c⟩ := delK_root hd ok.1 ok.2.2 hg
    rename_i h t u
    have := a u (List.mem_singleton.2 rfl)
    exact ⟨this.1, by omega, hs⟩
end Go.Proofs.YtohajcflklejjaaGreat
namespace Go.Proofs.YtohajcflklejjaaGreat
open Go.RowKit
set_option linter.unusedVariables false
set_option linter.unusedSimpArgs false
theorem own_base {w : World} {A B e size n : Nat} {v : Value} {xs : List Value} (h : w.ownsRow B e size v n xs) (hAB : A ≤ B) : w.ownsRow A e size v n xs := by
  refine ⟨h.1, ?_⟩
  rcases h.2 with hl | ⟨g, cap, cur, hv, hg, r⟩
  · exact .inl hl
  · exact .inr ⟨g, cap, cur, hv, Nat.le_trans hAB hg, r⟩
theorem OE.base {w : World} {A B : Nat} {s : Sl} {xs : List LE} (h : OE w B s xs) (hAB : A ≤ B) : OE w A s xs := ⟨own_base h.own hAB, h.vals.mono fun i hi => ⟨⟨Nat.le_trans hAB hi.1.1, hi.1.2⟩, hi.2⟩, h.few⟩
end Go.Proofs.YtohajcflklejjaaGreat
namespace Go.Proofs.YtohajcflklejjaaGreat
open Go.RowKit
set_option linter.unusedVariables false
set_option linter.unusedSimpArgs false
theorem eql_nil_some {P : Program} (w : World) {tp te : TypeId} (a : Addr) (hp : P.underlying tp = some (.pointer te)) :
    (binOp .eql tp (.pointer none) (.pointer (some a))).run P w = .ok (.bool false) w := by
  have h : ∀ d : Nat, (Op.equalIn (d + 1) tp (.pointer none) (.pointer (some a))).run P w = .ok false w := fun d => by
    simp [Op.equalIn, run_underlying hp]
  simp only [binOp]
  simp [Op.equal, Op.maxDepth, h 9999]
theorem is_info : ∃ j, Tryz.prog.info? 157 = some j ∧ j.size ≠ 0 := by
  have h : ((Tryz.prog.info? 157).map fun i => decide (i.size ≠ 0)) = some true := by kernel_rfl
  cases hj : Tryz.prog.info? 157 with
  | none => rw [hj] at h; cases h
  | some j => rw [hj] at h; exact ⟨j, rfl, by simpa using h⟩
def Leads (w : World) (p : Option Addr) : Prop := ∀ a, p = some a → ∃ c t, w.heap[a.block]? = some (.cells c t (0, 0))
theorem Leads.agree {w w' : World} {p : Option Addr} (h : Leads w p) {F : Nat → Prop} (ha : Agree F w w') (hF : ∀ a, p = some a → F a.block) : Leads w' p := fun a e => by
  obtain ⟨c, t, hc⟩ := h a e
  exact ⟨c, t, (ha _ (hF a e)).trans hc⟩
theorem Leads.ext {w w' : World} {p : Option Addr} (h : Leads w p) (he : Ext w w') : Leads w' p := fun a e => by
  obtain ⟨c, t, hc⟩ := h a e
  have hl : a.block < w.heap.size := (Array.getElem?_eq_some_iff.1 hc).1
  exact ⟨c, t, (he.heap hl).trans hc⟩
end Go.Proofs.YtohajcflklejjaaGreat
namespace Go.Proofs.YtohajcflklejjaaGreat
open Go.RowKit
set_option linter.unusedVariables false
set_option linter.unusedSimpArgs false
abbrev listV (n : Int) : Val := .mk 5 false 0 ByteArray.empty [.mk 3 false n ByteArray.empty [] [] []] [] []
structure OneT (k : ByteArray) (n : Int) (T : RT) (F : Nat → Prop) (w : World) : Prop where
  tree : IsT w F T
  ok : OkR T
  ents : entsT T = [(k, listV n)]
theorem OneT.agree {k : ByteArray} {n : Int} {T : RT} {F : Nat → Prop} {w w' : World} (h : OneT k n T F w) (ha : Agree F w w') : OneT k n T F w' := ⟨h.tree.agree ha, h.ok, h.ents⟩
end Go.Proofs.YtohajcflklejjaaGreat
namespace Go.Proofs.YtohajcflklejjaaGreat
open Go.RowKit
set_option linter.unusedVariables false
set_option linter.unusedSimpArgs false
theorem PutR.mono {A B : Nat} (hAB : A ≤ B) {k : ByteArray} {v : Val} {T T' : RT} (h : PutR B k v T T') : PutR A k v T T' := by
  cases h with
  | one hw => exact .one (hw.mono hAB)
  | two hw hc hb => exact .two (hw.mono hAB) hc (Nat.le_trans hAB hb)
def StepR (B : Nat) (kd : Int) (k : ByteArray) (v : Val) (T T' : RT) : Prop :=
  (kd = 1 ∧ PutR B k v T T') ∨ (kd = 2 ∧ DelT B k T T') ∨ (kd ≠ 1 ∧ kd ≠ 2 ∧ T' = T)
def stepE (kd : Int) (k : ByteArray) (v : Val) (es : List Ent) : List Ent := if kd = 1 then insE es k v else if kd = 2 then delE es k else es
theorem StepR.ents {B : Nat} {kd : Int} {k : ByteArray} {v : Val} {T T' : RT} (h : StepR B kd k v T T') (ok : OkR T) : entsT T' = stepE kd k v (entsT T) := by
  rcases h with ⟨rfl, h⟩ | ⟨rfl, h⟩ | ⟨h1, h2, rfl⟩
  · simp [stepE, h.ents ok]
  · simp [stepE, h.ents ok]
  · simp [stepE, h1, h2]
theorem StepR.ok {B : Nat} {kd : Int} {k : ByteArray} {v : Val} {T T' : RT} (h : StepR B kd k v T T') (ok : OkR T) : OkR T' := by
  rcases h with ⟨rfl, h⟩ | ⟨rfl, h⟩ | ⟨h1, h2, rfl⟩
  · exact h.ok ok
  · exact h.ok ok
  · exact ok
theorem NH.up {H : Nat → Prop} {w w' : World} (hH : ∀ b, H b → b < w.heap.size) (hs : w.heap.size ≤ w'.heap.size) {b : Nat} (h : Up (NH H w) w w' b) : NH H w' b := by
  rcases h with h | h
  · exact ⟨Nat.lt_of_lt_of_le h.1 hs, h.2⟩
  · exact ⟨h.2, fun hh => by have := hH b hh; omega⟩
theorem MapAt.wide {H : Nat → Prop} {w : World} {M : Nat} {es : List Ent} (h : MapAt H w M es) (N : Nat) : MapAt (fun b => H b ∨ (w.heap.size ≤ b ∧ b < N)) w M es :=
  h.more (fun b hb => .inl hb) fun b hb hg => hg.elim id fun hh => by omega
theorem MapAt.less {G H : Nat → Prop} {w : World} {M : Nat} {es : List Ent} (h : MapAt G w M es) (hG : ∀ b, H b → G b) (hm : H M) : MapAt H w M es := by
  obtain ⟨-, s, xs, hb, hs, hx⟩ := h
  exact ⟨hm, s, xs, hb, hs.mono fun i hi => ⟨hi.1, fun hg => hi.2 (hG i hg)⟩, hx⟩
section
variable {H : Nat → Prop} {w : World} {M : Nat} {T : RT} {a : LA}
theorem NH.st {H : Nat → Prop} {w w' : World} {M : Nat} (h : St (fun b => b = M) w w') (hm : H M) {b : Nat} (hb : NH H w b) : NH H w' b := ⟨Nat.lt_of_lt_of_le hb.1 h.size, hb.2⟩
theorem NH.agree {H : Nat → Prop} {w w' : World} {M : Nat} (h : St (fun b => b = M) w w') (hm : H M) : Agree (NH H w) w w' := fun b hb => h.block b hb.1 fun e => hb.2 (e ▸ hm)
theorem DelT.none {B : Nat} {k : ByteArray} {T T' : RT} (hd : DelT B k T T') (hg : (getE (entsT T) k).isSome = false) : T' = T := by
  cases hd with
  | no h => rfl
  | same h1 => rw [show getE (entsT _) k = _ from rfl] at hg; rw [getE_entsT] at hg; rw [h1] at hg; cases hg
  | gone h1 => rw [getE_entsT] at hg; rw [h1] at hg; cases hg
  | down h1 => rw [getE_entsT] at hg; rw [h1] at hg; cases hg
end
end Go.Proofs.YtohajcflklejjaaGreat
namespace Go.Proofs.YtohajcflklejjaaGreat
section
variable {P : Program} {ops : Array Oper} {Q : Exit → Act → World → Prop} {md : Region.Mode} {S : World → Prop}
theorem held_two {i j : Nat} {oi oj : Oper} {fuel : Nat} {listed : Array Bool} {a : Act} {w : World} (hr : Region.ready md ops listed = [i, j]) (hi : ops[i]? = some oi) (hj : ops[j]? = some oj) (hw : Region.wanted oi (yielded ops a.tmps) = true) (hv : Region.wanted oj (yielded ops a.tmps) = true)
    (h : ∀ K' : Act → World → Prop, Shut (∀ a w, S w → (S w → wpAnyH P md ops Q S fuel (listed.setIfInBounds i true) a w) → K' a w) → Oper.wp P oi a w K' Q)
    (h' : ∀ K' : Act → World → Prop, Shut (∀ a w, S w → (S w → wpAnyH P md ops Q S fuel (listed.setIfInBounds j true) a w) → K' a w) → Oper.wp P oj a w K' Q) : wpAnyH P md ops Q S (fuel + 1) listed a w :=
  wpAnyH_ready hr (by simp) (AllReadyH.cons hi (fun K' hK => by rw [if_pos hw]; exact h K' hK) (AllReadyH.cons hj (fun K' hK => by rw [if_pos hv]; exact h' K' hK) AllReadyH.nil))
end
end Go.Proofs.YtohajcflklejjaaGreat
namespace Go.Proofs.YtohajcflklejjaaGreat
open Go.RowKit
set_option linter.unusedVariables false
set_option linter.unusedSimpArgs false
structure PlayI (H : Nat → Prop) (M : Nat) (T : RT) (W : World) : Prop where
  map : MapAt H W M (entsT T)
  tree : IsT W (NH H W) T
  ok : OkR T
abbrev Wd (H : Nat → Prop) (lo hi : Nat) : Nat → Prop := fun b => H b ∨ (lo ≤ b ∧ b < hi)
theorem PlayI.st {H G : Nat → Prop} {M : Nat} {T : RT} {w w' : World} (h : PlayI H M T w) (k : St G w w') (hG : ∀ b, G b → H b) (hM : ¬ G M) : PlayI H M T w' :=
  ⟨h.map.st k hG hM, (h.tree.agree fun b hb => k.block b hb.1 fun hh => hb.2 (hG b hh)).mono fun i hi => ⟨Nat.lt_of_lt_of_le hi.1 k.size, hi.2⟩, h.ok⟩
theorem PlayI.ext {H : Nat → Prop} {M : Nat} {T : RT} {w w' : World} (h : PlayI H M T w) (k : Ext w w') : PlayI H M T w' := h.st (k.st fun _ => False) (fun _ hb => hb.elim) (fun hb => hb)
theorem PlayI.wide {H : Nat → Prop} {M : Nat} {T : RT} {w : World} (h : PlayI H M T w) (N : Nat) : PlayI (Wd H w.heap.size N) M T w :=
  ⟨h.map.wide N, h.tree.mono fun i hi => ⟨hi.1, fun hh => hh.elim hi.2 fun hh => by have := hi.1; omega⟩, h.ok⟩
theorem PlayI.less {G H : Nat → Prop} {M : Nat} {T : RT} {w : World} (h : PlayI G M T w) (hG : ∀ b, H b → G b) (hm : H M) : PlayI H M T w :=
  ⟨h.map.less hG hm, h.tree.mono fun i hi => ⟨hi.1, fun hh => hi.2 (hG i hh)⟩, h.ok⟩
theorem PlayI.nil {H : Nat → Prop} {w : World} {M : Nat} (hm : H M) (hb : Blk w M 76 #[.slice none 0 0]) : PlayI H M none w :=
  ⟨⟨hm, Sl.none, [], hb, ES.nil _ _, rfl⟩, trivial, trivial⟩
end Go.Proofs.YtohajcflklejjaaGreat
namespace Go.Proofs.YtohajcflklejjaaGreat
open Go.RowKit
set_option linter.unusedVariables false
section
variable {has : (k : Nat) → PT k → Bool}
end
def AllA (p : Nat → Prop) : (h : Nat) → PT h → Prop
  | 0, t => p (addr 0 t)
  | h + 1, t => p (addr (h + 1) t) ∧ ∀ kid ∈ t.2, AllA p h kid
theorem AllA.addr {p : Nat → Prop} : ∀ {h : Nat} {t : PT h}, AllA p h t → p (Proofs.YtohajcflklejjaaGreat.addr h t)
  | 0, _, h => h
  | _ + 1, _, h => h.1
def Sub (k : Nat) (u : PT k) : (h : Nat) → PT h → Prop
  | 0, t => (⟨k, u⟩ : Σ h, PT h) = ⟨0, t⟩
  | h + 1, t => (⟨k, u⟩ : Σ h, PT h) = ⟨h + 1, t⟩ ∨ ∃ kid ∈ t.2, Sub k u h kid
theorem Sub.refl {k : Nat} (u : PT k) : Sub k u k u := by
  cases k with
  | zero => exact rfl
  | succ k => exact .inl rfl
theorem Sub.le {k : Nat} {u : PT k} : ∀ {h : Nat} {t : PT h}, Sub k u h t → k ≤ h
  | 0, t, hs => by
    have : k = 0 := congrArg Sigma.fst hs
    omega
  | h + 1, t, hs => by
    rcases hs with e | ⟨kid, -, hs⟩
    · have : k = h + 1 := congrArg Sigma.fst e
      omega
    · have := hs.le
      omega
theorem Sub.kid {k : Nat} {u : PT (k + 1)} {c : PT k} (hc : c ∈ u.2) : ∀ {h : Nat} {t : PT h}, Sub (k + 1) u h t → Sub k c h t
  | 0, t, hs => by
    have : k + 1 = 0 := congrArg Sigma.fst hs
    omega
  | h + 1, t, hs => by
    rcases hs with e | ⟨kid, hm, hs⟩
    · have e1 : k + 1 = h + 1 := congrArg Sigma.fst e
      obtain rfl : k = h := by omega
      cases e
      exact .inr ⟨c, hc, Sub.refl c⟩
    · exact .inr ⟨kid, hm, hs.kid hc⟩
theorem Sub.ents {k : Nat} {u : PT k} : ∀ {h : Nat} {t : PT h}, Sub k u h t → ∀ e ∈ Proofs.YtohajcflklejjaaGreat.ents k u, e ∈ Proofs.YtohajcflklejjaaGreat.ents h t
  | 0, t, hs, e, he => by cases hs; exact he
  | h + 1, t, hs, e, he => by
    rcases hs with e1 | ⟨kid, hm, hs⟩
    · cases e1; exact he
    · exact List.mem_flatMap.2 ⟨kid, hm, hs.ents e he⟩
end Go.Proofs.YtohajcflklejjaaGreat
namespace Go.Proofs.YtohajcflklejjaaGreat
open Go.RowKit
set_option linter.unusedVariables false
theorem ext_obj (w : World) (o : Obj) (h : ∀ (W : World) (i j : Nat), W.heap[i]? = some o → W.frozen? ⟨i, j, none⟩ = false) : Ext w (w.alloc o) := by
  refine ⟨(Below.refl _ _).alloc (Nat.le_refl _) _, fun b j hb => ?_⟩
  by_cases hb' : b = w.heap.size
  · subst hb'
    exact h _ _ _ (World.alloc_heap_new w o)
  · exact frozen_none (by simp; omega)
structure Turned (B : Nat) (W W' : World) : Prop where
  os : W'.os = W.os
  tape : W'.tape = W.tape
  output : W'.output = W.output
  size : W'.heap.size = W.heap.size
  block : ∀ b, (b < B ∨ ∃ o, W.heap[b]? = some o ∧ o.isCells = true) → W'.heap[b]? = W.heap[b]?
  fz : ∀ b o, W'.frozen? ⟨b, o, none⟩ = W.frozen? ⟨b, o, none⟩
theorem Turned.put {B l : Nat} {W : World} {o o' : Obj} (hl : B ≤ l) (h : W.heap[l]? = some o) (hc : o.isCells = false) (hc' : o'.isCells = false) : Turned B W (W.putObj l o') := by
  refine ⟨rfl, rfl, rfl, by simp, fun b hb => World.putObj_heap_other ?_, fun b j => ?_⟩
  · rintro rfl
    rcases hb with hb | ⟨o2, h2, h3⟩
    · omega
    · rw [h] at h2; cases h2; rw [hc] at h3; cases h3
  · by_cases e : b = l
    · subst e
      have h1 : (W.putObj b o').heap[b]? = some o' := World.putObj_heap_same (Array.getElem?_eq_some_iff.1 h).1
      unfold World.frozen?
      simp only [h1, h]
      cases o <;> cases o' <;> first | rfl | (simp [Obj.isCells] at hc; done) | (simp [Obj.isCells] at hc'; done)
    · exact World.frozen?_of_block (a := ⟨b, j, none⟩) (World.putObj_heap_other e)
end Go.Proofs.YtohajcflklejjaaGreat
