/- What the theorem needs of the texts With2, Put, Log, Trees, Get, Gather, Map7, Step, Put7, Held, Cmp02, BuiltP, Build, Map7b, PairE: no condition of its own. -/
import Derived.Deep.RegionLaw
import Derived.Deep.RegionHeld3
import Derived.Lib.Hide
import Derived.Below
import Derived.Test.YtechahocffcbpaaGreatDoorPva
import Derived.Test.YtechahocffcbpaaGreatDoorPvb
set_option maxRecDepth 100000
set_option maxHeartbeats 2000000
namespace Go.Proofs.YtechahocffcbpaaGreatDoor
open Go.RowKit
set_option linter.unusedVariables false
set_option linter.unusedSimpArgs false
theorem own_row {w : World} {base e size n : Nat} {s : Sl} {xs : List Value} (h : w.ownsRow base e size (.slice s.a n s.c) n xs) {b : Nat} (hb : s.row = some b) : base ≤ b ∧ b < w.heap.size :=
  h.lt b (by obtain ⟨a, c⟩ := s; cases a <;> simp_all [Value.ownBlock, Sl.row])
theorem own_block {w : World} {base e size n : Nat} {s : Sl} {xs : List Value} (h : w.ownsRow base e size (.slice s.a n s.c) n xs) (hn : 0 < n) : ∃ g cap, s = ⟨some ⟨g, 0, none⟩, cap⟩ ∧ base ≤ g ∧ n ≤ cap ∧ cap ≤ maxLen ∧ Filling w g e size cap := by
  rcases h.2 with ⟨hv, h0⟩ | ⟨g, cap, cur, hv, hbg, hg, hnc, hcm, hcs, -⟩
  · omega
  · simp only [Value.slice.injEq] at hv
    exact ⟨g, cap, by obtain ⟨a, c⟩ := s; simp_all, hbg, hnc, hcm, cur, hg, hcs⟩
theorem own_set {w : World} {base e n g cap : Nat} {xs : List Value} (h : w.ownsRow base e 1 (.slice (some ⟨g, 0, none⟩) n cap) n xs) {i : Nat} (hi : i < n) (u : Value) : (w.setCell ⟨g, i, none⟩ u).ownsRow base e 1 (.slice (some ⟨g, 0, none⟩) n cap) n (xs.set i u) := by
  rcases h.2 with ⟨hv, h0⟩ | ⟨g', cap', cur, hv, hbg, hg, hnc, hcm, hcs, ht⟩
  · omega
  · simp only [Value.slice.injEq, Option.some.injEq, Addr.mk.injEq, and_true, true_and] at hv
    obtain ⟨rfl, rfl⟩ := hv
    refine ⟨by rw [List.length_set]; exact h.1, .inr ⟨g, cap, cur.setIfInBounds i u, rfl, hbg, Blk.set_ (show Blk w g e cur from hg) i u, hnc, hcm, by rw [Array.size_setIfInBounds]; exact hcs, ?_⟩⟩
    rw [Array.toList_setIfInBounds, List.take_set, ht]
theorem size_le8 : ∀ {h : Nat} {t : PT h}, OkT h t → size h t ≤ 8
  | 0, _, ok => ok
  | _ + 1, _, ok => ok.2.1
theorem kids_ents {B : Nat} {k : ByteArray} {v : Val} {h : Nat} {t : PT (h + 1)} {kid : PT h} {rs : List (PT h)} (hk : t.2[whichK h t.2 k]? = some kid) (hr : WithR B k v h kid rs) (ok : OkT (h + 1) t) (hs : Sorted (ents (h + 1) t)) :
    (t.2.take (whichK h t.2 k) ++ rs ++ t.2.drop (whichK h t.2 k + 1)).flatMap (ents h) = insE (ents (h + 1) t) k v := by
  have hp := kids_pos ok
  obtain ⟨kid', hk', hA, hC⟩ := which_split (h := h) (ks := t.2) hs hp (by have := ok.1; omega) k
  rw [hk] at hk'
  simp only [Option.some.injEq] at hk'
  subst hk'
  have hm := List.mem_of_getElem? hk
  have ih := WithR.ents hr (ok.2.2 kid hm).1 (kid_sorted hs kid hm)
  rw [List.flatMap_append, List.flatMap_append, ih]
  show _ = insE (t.2.flatMap (Proofs.YtechahocffcbpaaGreatDoor.ents h)) k v
  conv => rhs; rw [take_mid hk]
  rw [List.flatMap_append, List.flatMap_cons, insE_app hA, insE_stop hC, List.append_assoc]
theorem kids_ok {B : Nat} {k : ByteArray} {v : Val} {h : Nat} {t : PT (h + 1)} {kid : PT h} {rs : List (PT h)} (hk : t.2[whichK h t.2 k]? = some kid) (hr : WithR B k v h kid rs) (ok : OkT (h + 1) t) :
    ∀ u ∈ t.2.take (whichK h t.2 k) ++ rs ++ t.2.drop (whichK h t.2 k + 1), OkT h u ∧ 4 ≤ size h u := by
  have hm := List.mem_of_getElem? hk
  obtain ⟨i1, i2⟩ := WithR.ok hr (ok.2.2 kid hm).1
  have hk4 := (ok.2.2 kid hm).2
  intro u hu
  rcases List.mem_append.1 hu with hu | hu
  · rcases List.mem_append.1 hu with hu | hu
    · exact ok.2.2 u (List.mem_of_mem_take hu)
    · exact ⟨(i1 u hu).1, (i1 u hu).2.2 hk4⟩
  · exact ok.2.2 u (List.mem_of_mem_drop hu)
def WithPost (F : Nat → Prop) (h : Nat) (t : PT h) (k : ByteArray) (v : Val) (w : World) (e : Ending) (w' : World) : Prop :=
  ∃ ts : List (PT h), e = two h ts ∧ WithR w.heap.size k v h t ts ∧ (∀ u ∈ ts, IsN w' (Up F w w') h u) ∧ Ext w w'
def WithPost' (F : Nat → Prop) (h : Nat) (t : PT h) (k : ByteArray) (v : Val) (w : World) (e : Ending) (w' : World) : Prop :=
  ∃ (a : PT h) (r : Value) (rs : List (PT h)), e = .returned (.tuple #[ptr h a, r]) ∧ ((r = .pointer none ∧ rs = [a]) ∨ ∃ b, r = ptr h b ∧ rs = [a, b]) ∧ WithR w.heap.size k v h t rs ∧ (∀ u ∈ rs, IsN w' (Up F w w') h u) ∧ Ext w w'
theorem WithPost.apart {F : Nat → Prop} {h : Nat} {t : PT h} {k : ByteArray} {v : Val} {w : World} {e : Ending} {w' : World} (p : WithPost F h t k v w e w') : WithPost' F h t k v w e w' := by
  obtain ⟨ts, rfl, h1, h2, h3⟩ := p
  rcases h1.two with ⟨a, rfl⟩ | ⟨a, b, rfl⟩
  · exact ⟨a, _, _, rfl, .inl ⟨rfl, rfl⟩, h1, h2, h3⟩
  · exact ⟨a, _, _, rfl, .inr ⟨b, rfl, rfl⟩, h1, h2, h3⟩
theorem with_zero {w : World} {F : Nat → Prop} (hF : ∀ b, F b → b < w.heap.size) {t : PT 0} (hn : IsN w F 0 t) (ok : OkT 0 t) (hs : Sorted (ents 0 t)) {k : ByteArray} {v : Val} {sl so : Sl} (hv : RV w (Lt w.heap.size) v sl so) (hkm : k.size ≤ maxLen) :
    Calls Tryz.prog 66 #[ptr 0 t, aggE k v sl so] w (WithPost F 0 t k v w) := by
  have hn' : IsN w (Lt w.heap.size) 0 t := hn.mono hF
  refine (with_leaf (fun W hW => height_any (hn'.ext hW)) (fun W hW => entries_any (hn'.ext hW)) hs ok hv hkm).mono ?_
  rintro e w' ⟨ts, rfl, h1, h2, h3⟩
  exact ⟨ts, rfl, ⟨h1, fun u hu => (h2 u hu).1⟩, fun u hu => (h2 u hu).2.mono fun i hi => .inr hi, h3⟩
theorem two_cases1 {n : Nat} {L : List (PT n)} {ts : List (PT (n + 1))} (h : ts.map Prod.snd = chunk L) : (∃ a, ts = [a]) ∨ ∃ a b, ts = [a, b] := by
  rcases chunk_two L with ⟨a, ha⟩ | ⟨a, b, ha⟩ <;> rw [ha] at h
  · obtain ⟨x, hx, -⟩ := one1 h; exact .inl ⟨x, hx⟩
  · obtain ⟨x, y, hx, -⟩ := two1 h; exact .inr ⟨x, y, hx⟩
theorem with_end {w w3 w' : World} {F : Nat → Prop} {h : Nat} {t : PT (h + 1)} {k : ByteArray} {v : Val} {i : Nat} {kid : PT h} {rs : List (PT h)} {B : Nat} (hE : Ext w w3) (hi : whichK h t.2 k = i) (hkid : t.2[whichK h t.2 k]? = some kid) (hB : w.heap.size ≤ B) (hwr : WithR B k v h kid rs)
    {ts : List (PT (h + 1))} (h1 : ts.map Prod.snd = chunk (t.2.take i ++ rs ++ t.2.drop (i + 1))) (h2 : ∀ u ∈ ts, w3.heap.size ≤ addr (h + 1) u ∧ IsN w' (Up (Up F w w3) w3 w') (h + 1) u) (h3 : Ext w3 w') : WithPost F (h + 1) t k v w (two (h + 1) ts) w' := by
  subst hi
  refine ⟨ts, rfl, ⟨kid, rs, hkid, hwr.mono hB, h1, fun u hu => Nat.le_trans hE.size (h2 u hu).1⟩, fun u hu => (h2 u hu).2.mono fun i hi => ?_, hE.trans h3⟩
  rcases hi with (hi | hi) | hi
  · exact .inl hi
  · exact .inr ⟨hi.1, Nat.lt_of_lt_of_le hi.2 h3.size⟩
  · exact .inr ⟨Nat.le_trans hE.size hi.1, hi.2⟩
theorem ptrs_set {h : Nat} {ks : List (PT h)} {i : Nat} (hi : i < ks.length) (a : PT h) : (ptrs h ks).set i (ptr h a) = ptrs h (ks.take i ++ [a] ++ ks.drop (i + 1)) := by
  rw [ptrs, ← List.map_set, List.set_eq_take_append_cons_drop, if_pos hi, List.append_assoc]; rfl
theorem ptrs_ins {h : Nat} {ks : List (PT h)} {i : Nat} (hi : i < ks.length) (a b : PT h) : (ptrs h (ks.take i ++ [a] ++ ks.drop (i + 1))).take ((i + 1) * 1) ++ [ptr h b] ++ (ptrs h (ks.take i ++ [a] ++ ks.drop (i + 1))).drop ((i + 1) * 1) = ptrs h (ks.take i ++ [a, b] ++ ks.drop (i + 1)) := by
  have hl : (ptrs h (ks.take i ++ [a])).length = i + 1 := by simp [ptrs]; omega
  have e : ptrs h (ks.take i ++ [a] ++ ks.drop (i + 1)) = ptrs h (ks.take i ++ [a]) ++ ptrs h (ks.drop (i + 1)) := by simp [ptrs]
  rw [e, Nat.mul_one, ← hl, List.take_left, List.drop_left, hl]
  simp [ptrs]
theorem with_succ {h : Nat} {k : ByteArray} {v : Val} {sl so : Sl} (hkm : k.size ≤ maxLen)
    (ih : ∀ (w : World) (F : Nat → Prop) (t : PT h), (∀ b, F b → b < w.heap.size) → IsN w F h t → OkT h t → Sorted (ents h t) → (ents h t).length ≤ 1000000 → RV w (Lt w.heap.size) v sl so → Calls Tryz.prog 66 #[ptr h t, aggE k v sl so] w (WithPost F h t k v w))
    {w : World} {F : Nat → Prop} {t : PT (h + 1)} (hF : ∀ b, F b → b < w.heap.size) (hn : IsN w F (h + 1) t) (ok : OkT (h + 1) t) (hs : Sorted (ents (h + 1) t)) (hc : (ents (h + 1) t).length ≤ 1000000) (hv : RV w (Lt w.heap.size) v sl so) :
    Calls Tryz.prog 66 #[ptr (h + 1) t, aggE k v sl so] w (WithPost F (h + 1) t k v w) := by
  have hpos := kids_pos ok
  have hh : h + 1 < 1000000 := Nat.lt_of_lt_of_le (height_lt (h + 1) t ok (by have := ok.1; show 1 ≤ t.2.length; omega)) hc
  obtain ⟨kid, hkid, hA, hC⟩ := which_split (h := h) (ks := t.2) hs hpos (by have := ok.1; omega) k
  have hkm' := List.mem_of_getElem? hkid
  have hil := (List.getElem?_eq_some_iff.1 hkid).1
  have hlen2 := ok.1
  have hlen8 := ok.2.1
  have hks : ∀ x ∈ t.2, IsN w F h x := hn.2.choose_spec.2.2
  have hkc : (ents h kid).length ≤ 1000000 := Nat.le_trans (by
    show _ ≤ (t.2.flatMap (ents h)).length
    rw [take_mid hkid]; simp only [List.flatMap_append, List.flatMap_cons, List.length_append]; omega) hc
  have hih : ∀ W, Ext w W → Calls Tryz.prog 66 #[ptr h kid, aggE k v sl so] W (WithPost' F h kid k v W) := fun W hW =>
    (ih W F kid (fun b hb => Nat.lt_of_lt_of_le (hF b hb) hW.size) ((hks kid hkm').agree (hW.agree hF)) (ok.2.2 kid hkm').1 (kid_sorted hs kid hkm') hkc ((hv.agree (hW.agree fun _ h => h)).mono fun i hi => Nat.lt_of_lt_of_le hi hW.size)).mono fun _ _ p => p.apart
  have HF := Lib.hid hF
  have HN := Lib.hid hn
  have HOK := Lib.hid ok
  have HS := Lib.hid hs
  have HC := Lib.hid hc
  have HP := Lib.hid hpos
  have HIH := Lib.hid hih
  have HKS := Lib.hid hks
  have HKID := Lib.hid hkid
  have hnz : (((h : Int) + 1) == 0) = false := beq_eq_false_iff_ne.2 (by omega)
  clear hF hn ok hs hc hpos hih hks hkid hA hC hv ih hkc
  go_enter Tryz.func66, Tryz.ntmps66
  go_wp2_with fail
  have hx0 : Ext w (w.alloc (.cells #[.string k, .int .i64 v.kind, .bool v.b, .int .i64 v.i, .string v.t, .slice sl.a v.l.length sl.c, .slice so.a v.ok.length so.c] 64)) := (Ext.refl w).alloc _ _
  have hb0 := Blk.new w 64 #[.string k, .int .i64 v.kind, .bool v.b, .int .i64 v.i, .string v.t, .slice sl.a v.l.length sl.c, .slice so.a v.ok.length so.c]
  generalize hW0 : World.alloc _ _ = W0 at *
  have hz0 : W0.heap.size = w.heap.size + 1 := by rw [← hW0]; simp
  clear hW0
  have hnW : IsN W0 F (h + 1) t := HN.out.agree (hx0.agree HF.out)
  refine (height_any hnW).mono ?_
  rintro e w1 ⟨rfl, rfl⟩
  have hkc := kids_any hnW (by omega)
  clear hnW
  go_wp2_with fail
  refine hkc.mono ?_
  rintro e w1 ⟨s', rfl, hown, hx1⟩
  have hX1 := hx0.trans hx1
  have hb1 := hb0.ext hx1
  obtain ⟨c0, c1, c2, c3, c4, c5, c6⟩ := hb1.c7
  have hrd : Rd w1 (Lt w1.heap.size) 1 s' t.2.length (ptrs h t.2) := (Rd.of_own hown).mono fun i hi => hi.2
  have hwh := which_any hrd (fun x hx => (HKS.out x hx).agree (hX1.agree HF.out)) (fun b hb => Nat.lt_of_lt_of_le (HF.out b hb) hX1.size) HP.out k HS.out (by omega)
  obtain ⟨i, hi⟩ : ∃ i, whichK h t.2 k = i := ⟨_, rfl⟩
  rw [hi] at hwh hil
  have HI := Lib.hid hi
  have HWH := Lib.hid hwh
  have HO1 := Lib.hid hown
  have HB1 := Lib.hid hb1
  have HX1 := Lib.hid hX1
  have HX01 := Lib.hid hx1
  clear hi hwh hown hb1 hX1 hrd hkc hb0 hx0 hx1
  go_wp2_with fail
  refine HWH.out.mono ?_
  rintro e w2 ⟨rfl, hx2⟩
  clear c0 c1 c2 c3 c4 c5 c6
  obtain ⟨d0, d1, d2, d3, d4, d5, d6⟩ := (HB1.out.ext hx2).c7
  have hbl := HB1.out.lt
  have hbl2 := (HB1.out.ext hx2).lt
  have hX2 := HX1.out.trans hx2
  obtain ⟨g, cap, rfl, hbg, hnc, hcm, hfil⟩ := own_block HO1.out (by omega)
  have ho2 : w2.ownsRow W0.heap.size 23 1 (.slice (some ⟨g, 0, none⟩) t.2.length cap) t.2.length (ptrs h t.2) := own_agree HO1.out (hx2.agree (F := Lt w1.heap.size) fun _ h => h) fun b hb => (own_row HO1.out hb).2
  have hkp : w2.cell? ⟨g, i, none⟩ = some (ptr h kid) := by
    have := ho2.cells (g := g) rfl i (ptr h kid) (by rw [ptrs, List.getElem?_map, ← HI.out, HKID.out]; rfl)
    rwa [add_at, Nat.zero_add] at this
  have hil' : (i : Int) < (t.2.length : Int) := by omega
  have HO2 := Lib.hid ho2
  have HX2 := Lib.hid hX2
  have hg2 : g < w2.heap.size := (own_row (s := ⟨some ⟨g, 0, none⟩, cap⟩) ho2 rfl).2
  have hfz : ∀ o, w2.frozen? ⟨g, o, none⟩ = false := fun o => by rw [hx2.frozen hfil.lt]; exact hfil.frozen o
  clear hx2 ho2 hX2 hfil
  go_wp2_with fail
  go_region_held3 (fun w' => w'.cell? ⟨g, i, none⟩ = some (ptr h kid) ∧ w'.cell? ⟨w.heap.size, 0, none⟩ = some (.string k) ∧ w'.cell? ⟨w.heap.size, 1, none⟩ = some (.int .i64 v.kind) ∧ w'.cell? ⟨w.heap.size, 2, none⟩ = some (.bool v.b) ∧ w'.cell? ⟨w.heap.size, 3, none⟩ = some (.int .i64 v.i) ∧ w'.cell? ⟨w.heap.size, 4, none⟩ = some (.string v.t) ∧ w'.cell? ⟨w.heap.size, 5, none⟩ = some (.slice sl.a v.l.length sl.c) ∧ w'.cell? ⟨w.heap.size, 6, none⟩ = some (.slice so.a v.ok.length so.c)) (go_keep)
    ((go_at_call 66; refine (HIH.out _ HX2.out.drew).mono ?_; rintro e w3 ⟨a, r, rs, rfl, hr, hwr, hwn, hx3⟩; have HR := Lib.hid hr; have HWR := Lib.hid hwr; have HWN := Lib.hid hwn; clear hr hwr hwn; have ho3 : (∀ b o, b < w2.heap.size → w3.cell? ⟨b, o, none⟩ = w2.cell? ⟨b, o, none⟩) := fun b o hb => hx3.cell (show b < w2.drew.heap.size from hb)))
  have hX23 : Ext w2 w3 := ((Ext.refl w2).drew).trans hx3
  have hg3 : g < w3.heap.size := Nat.lt_of_lt_of_le hg2 hX23.size
  have hkp3 := (hX23.cell (o := i) hg2).trans hkp
  have hfz3 : w3.frozen? ⟨g, i, none⟩ = false := (hX23.frozen hg2).trans (hfz i)
  have HX23 := Lib.hid hX23
  have HX2D := Lib.hid hx3
  clear hX23 hx3 hkp hfz ho3 d0 d1 d2 d3 d4 d5 d6
  have ho3 : w3.ownsRow W0.heap.size 23 1 (.slice (some ⟨g, 0, none⟩) t.2.length cap) t.2.length (ptrs h t.2) := own_agree (s := ⟨some ⟨g, 0, none⟩, cap⟩) HO2.out (HX23.out.agree (F := Lt w2.heap.size) fun _ h => h) fun b hb => (own_row (s := ⟨some ⟨g, 0, none⟩, cap⟩) HO2.out hb).2
  have ho4 := own_set ho3 hil (ptr h a)
  rw [ptrs_set hil] at ho4
  have hX4 : Ext w (w3.setCell ⟨g, i, none⟩ (ptr h a)) := (HX2.out.trans HX23.out).setCell (p := ⟨g, i, none⟩) (by show w.heap.size ≤ g; omega) _
  have hag4 : Agree (Up F w2.drew w3) w3 (w3.setCell ⟨g, i, none⟩ (ptr h a)) := Agree.setCell w3 ⟨g, i, none⟩ _ (by
    rintro (hf | hf)
    · have : g < w.heap.size := HF.out g hf
      omega
    · have : w2.heap.size ≤ g := hf.1
      omega)
  have hkids : ∀ W, Ext w W → Agree (Up F w2.drew w3) w3 W → w3.heap.size ≤ W.heap.size → Kids W (Up F w W) h (t.2.take i ++ rs ++ t.2.drop (i + 1)) := fun W hW hag hsz => by
    have hke := kids_ents HKID.out HWR.out HOK.out HS.out
    have hko := kids_ok HKID.out HWR.out HOK.out
    rw [HI.out] at hke hko
    have hso : Sorted ((t.2.take i ++ rs ++ t.2.drop (i + 1)).flatMap (ents h)) := by rw [hke]; exact insE_sorted HS.out k v
    have hps : ∀ x ∈ t.2.take i ++ rs ++ t.2.drop (i + 1), 0 < (ents h x).length := fun x hx => ents_pos h x (hko x hx).1 (by have := (hko x hx).2; omega)
    refine ⟨fun b hb => hb.elim (fun h => Nat.lt_of_lt_of_le (HF.out b h) hW.size) fun h => h.2, fun x hx => ?_, rising_of hso hps, hps, fun x hx => by have := size_le8 (hko x hx).1; omega, by
      have := insE_len (ents (h + 1) t) k v
      have hcc := HC.out
      unfold cnt; rw [hke]; omega, by omega⟩
    rcases List.mem_append.1 hx with hx | hx
    · rcases List.mem_append.1 hx with hx | hx
      · exact ((HKS.out x (List.mem_of_mem_take hx)).agree (hW.agree HF.out)).mono fun _ h => .inl h
      · exact ((HWN.out x hx).agree hag).mono fun b hb => hb.elim .inl fun h => .inr ⟨Nat.le_trans HX2.out.size h.1, Nat.lt_of_lt_of_le h.2 hsz⟩
    · exact ((HKS.out x (List.mem_of_mem_drop hx)).agree (hW.agree HF.out)).mono fun _ h => .inl h
  have HK := Lib.hid hkids
  have HO4 := Lib.hid ho4
  have HX4 := Lib.hid hX4
  have HA4 := Lib.hid hag4
  have hB2 : w.heap.size ≤ w2.drew.heap.size := HX2.out.size
  have hgw : W0.heap.size ≤ w3.heap.size := by omega
  have HB2 := Lib.hid hB2
  clear ho3 ho4 hX4 hag4 hkids hB2
  rcases HR.out with ⟨rfl, rfl⟩ | ⟨b, rfl, rfl⟩
  · have hlen : (t.2.take i ++ [a] ++ t.2.drop (i + 1)).length = t.2.length := by simp; omega
    have hsp := splitP_any (w := w3.setCell ⟨g, i, none⟩ (ptr h a)) (s := ⟨some ⟨g, 0, none⟩, cap⟩) (by rw [hlen]; exact (Rd.of_own HO4.out).mono fun i hi => hi.2) (HK.out _ HX4.out HA4.out (by simp)) (by omega) (by omega)
    rw [hlen] at hsp
    have HSP := Lib.hid hsp
    clear hsp hlen
    go_wp2_with fail
    refine HSP.out.mono ?_
    rintro e w5 ⟨ts, rfl, h1, h2, h3⟩
    have H2 := Lib.hid h2
    have H1 := Lib.hid h1
    clear h2
    rcases two_cases1 h1 with ⟨a', rfl⟩ | ⟨a', b', rfl⟩
    all_goals
      clear h1
      simp only [two]
      go_wp2_with fail
      go_ret2
      exact with_end HX4.out HI.out HKID.out HB2.out HWR.out H1.out H2.out h3
  · have hw1 : IntKind.i64.wrap ((i : Int) + 1) = (i : Int) + 1 := by rw [IntKind.wrap_i64]; omega
    have hlen : (t.2.take i ++ [a] ++ t.2.drop (i + 1)).length = t.2.length := by simp; omega
    have hlen2' : (t.2.take i ++ [a, b] ++ t.2.drop (i + 1)).length = t.2.length + 1 := by simp; omega
    have hE5 : Ext (w3.setCell ⟨g, i, none⟩ (ptr h a)) ((w3.setCell ⟨g, i, none⟩ (ptr h a)).alloc (.cells #[ptr h b] 23)) := (Ext.refl _).alloc _ _
    have hb5 : Blk ((w3.setCell ⟨g, i, none⟩ (ptr h a)).alloc (.cells #[ptr h b] 23)) w3.heap.size 23 [ptr h b].toArray := by
      have := Blk.new (w3.setCell ⟨g, i, none⟩ (ptr h a)) 23 #[ptr h b]
      rwa [World.size_setCell] at this
    go_wp2_with fail
    change Calls _ _ _ ((w3.setCell ⟨g, i, none⟩ (ptr h a)).alloc (.cells #[ptr h b] 23)) _
    have ho5 : ((w3.setCell ⟨g, i, none⟩ (ptr h a)).alloc (.cells #[ptr h b] 23)).ownsRow W0.heap.size 23 1 (.slice (some ⟨g, 0, none⟩) t.2.length cap) t.2.length (ptrs h (t.2.take i ++ [a] ++ t.2.drop (i + 1))) := own_agree (s := ⟨some ⟨g, 0, none⟩, cap⟩) HO4.out (hE5.agree (F := Lt w3.heap.size) fun i hi => by rw [World.size_setCell]; exact hi) fun b hb => by
      have := (own_row (s := ⟨some ⟨g, 0, none⟩, cap⟩) HO4.out hb).2
      rwa [World.size_setCell] at this
    have hag5 : Agree (Up F w2.drew w3) w3 ((w3.setCell ⟨g, i, none⟩ (ptr h a)).alloc (.cells #[ptr h b] 23)) := HA4.out.trans (hE5.agree fun j hj => by rw [World.size_setCell]; exact hj.elim (fun hh => Nat.lt_of_lt_of_le (HF.out j hh) (by have := HX2.out.size; have := HX23.out.size; omega)) fun hh => hh.2)
    have hX5 := HX4.out.trans hE5
    have hz5 : ((w3.setCell ⟨g, i, none⟩ (ptr h a)).alloc (.cells #[ptr h b] 23)).heap.size = w3.heap.size + 1 := by simp
    generalize (w3.setCell ⟨g, i, none⟩ (ptr h a)).alloc (.cells #[ptr h b] 23) = W5 at *
    have hins := insN_any (w := W5) (base := W0.heap.size) (n := t.2.length) (i := i + 1) (s := ⟨some ⟨g, 0, none⟩, cap⟩) (xs := ptrs h (t.2.take i ++ [a] ++ t.2.drop (i + 1))) (ys := [ptr h b]) (vb := w3.heap.size) ho5 (by omega) (by omega) (by omega) rfl hb5 (by simp [Sl.row]; omega) (by simp [Value.oneCell']) (ptrs_one _ _)
    have H5 := Lib.hid hX5
    have HG5 := Lib.hid hag5
    clear hX5 hag5 hb5 ho5 hE5
    refine hins.mono ?_
    rintro e w6 ⟨s6, rfl, hown6, hwr6, -⟩
    rw [ptrs_ins hil] at hown6
    have hX6 : Ext w w6 := H5.out.wr hwr6 fun j hj => by simp [Sl.row] at hj; omega
    have hag6 : Agree (Up F w2.drew w3) w3 w6 := HG5.out.trans (hwr6.agree (fun j hj => by rw [hz5]; exact hj.elim (fun hh => Nat.lt_of_lt_of_le (HF.out j hh) (by have := HX2.out.size; have := HX23.out.size; omega)) fun hh => Nat.lt_succ_of_lt hh.2) (fun j hj => by
      simp [Sl.row] at hj; subst hj
      rintro (hf | hf)
      · have : g < w.heap.size := HF.out g hf
        omega
      · have : w2.heap.size ≤ g := hf.1
        omega))
    have hsp := splitP_any (w := w6) (s := s6) (by rw [hlen2']; exact (Rd.of_own hown6).mono fun i hi => hi.2) (HK.out _ hX6 hag6 (by have := hwr6.grown.size; omega)) (by omega) (by omega)
    rw [hlen2'] at hsp
    have HSP := Lib.hid hsp
    have HX6 := Lib.hid hX6
    clear hsp hlen hlen2' hX6 hag6 hown6 hwr6 hins
    go_wp2_with fail
    refine HSP.out.mono ?_
    rintro e w7 ⟨ts, rfl, h1, h2, h3⟩
    have H2 := Lib.hid h2
    have H1 := Lib.hid h1
    clear h2
    rcases two_cases1 h1 with ⟨a', rfl⟩ | ⟨a', b', rfl⟩
    all_goals
      clear h1
      simp only [two]
      go_wp2_with fail
      go_ret2
      exact with_end HX6.out HI.out HKID.out HB2.out HWR.out H1.out H2.out h3
theorem with_any {k : ByteArray} {v : Val} {sl so : Sl} (hkm : k.size ≤ maxLen) : ∀ (h : Nat) (w : World) (F : Nat → Prop) (t : PT h), (∀ b, F b → b < w.heap.size) → IsN w F h t → OkT h t → Sorted (ents h t) → (ents h t).length ≤ 1000000 → RV w (Lt w.heap.size) v sl so →
    Calls Tryz.prog 66 #[ptr h t, aggE k v sl so] w (WithPost F h t k v w)
  | 0, w, F, t, hF, hn, ok, hs, hc, hv => with_zero hF hn ok hs hv hkm
  | h + 1, w, F, t, hF, hn, ok, hs, hc, hv => with_succ hkm (with_any hkm h) hF hn ok hs hc hv
abbrev RT := Option (Σ h, PT h)
def rootV : RT → Value
  | none => .pointer none
  | some ⟨h, t⟩ => ptr h t
abbrev treeV (T : RT) : Value := .agg #[rootV T]
def entsT : RT → List Ent
  | none => []
  | some ⟨h, t⟩ => ents h t
def OkR : RT → Prop
  | none => True
  | some ⟨h, t⟩ => OkT h t ∧ 1 ≤ size h t ∧ Sorted (ents h t)
def IsT (w : World) (F : Nat → Prop) : RT → Prop
  | none => True
  | some ⟨h, t⟩ => IsN w F h t
theorem IsT.agree {w w' : World} {F : Nat → Prop} {T : RT} (h : IsT w F T) (ha : Agree F w w') : IsT w' F T := by
  match T, h with
  | none, _ => trivial
  | some ⟨n, t⟩, h => exact IsN.agree ha h
theorem IsT.mono {w : World} {F G : Nat → Prop} {T : RT} (h : IsT w F T) (hG : ∀ i, F i → G i) : IsT w G T := by
  match T, h with
  | none, _ => trivial
  | some ⟨n, t⟩, h => exact IsN.mono hG h
theorem OkR.sorted {T : RT} (h : OkR T) : Sorted (entsT T) := by
  match T, h with
  | none, _ => exact List.Pairwise.nil
  | some ⟨n, t⟩, h => exact h.2.2
inductive WithRT (B : Nat) (k : ByteArray) (v : Val) : RT → (h : Nat) → List (PT h) → Prop
  | none (u : PT 0) (h : u.2 = [(k, v)]) (hb : B ≤ u.1) : WithRT B k v none 0 [u]
  | some {h : Nat} {t : PT h} {ts : List (PT h)} (hw : WithR B k v h t ts) : WithRT B k v (some ⟨h, t⟩) h ts
theorem WithRT.mono {A B : Nat} (hAB : A ≤ B) {k : ByteArray} {v : Val} {T : RT} {h : Nat} {ts : List (PT h)} (hw : WithRT B k v T h ts) : WithRT A k v T h ts := by
  cases hw with
  | none u hu hb => exact .none u hu (Nat.le_trans hAB hb)
  | some hw => exact .some (hw.mono hAB)
theorem WithRT.height {B : Nat} {k : ByteArray} {v : Val} {T : RT} {h : Nat} {ts : List (PT h)} (hw : WithRT B k v T h ts) (ok : OkR T) : h ≤ (entsT T).length := by
  cases hw with
  | none u hu hb => exact Nat.zero_le _
  | some hw => exact Nat.le_of_lt (height_lt _ _ ok.1 ok.2.1)
inductive PutR (B : Nat) (k : ByteArray) (v : Val) : RT → RT → Prop
  | one {T : RT} {h : Nat} {a : PT h} (hw : WithRT B k v T h [a]) : PutR B k v T (some ⟨h, a⟩)
  | two {T : RT} {h : Nat} {a b : PT h} {c : PT (h + 1)} (hw : WithRT B k v T h [a, b]) (hc : c.2 = [a, b]) (hb : B ≤ addr (h + 1) c) : PutR B k v T (some ⟨h + 1, c⟩)
theorem WithRT.ents {B : Nat} {k : ByteArray} {v : Val} {T : RT} {h : Nat} {ts : List (PT h)} (hw : WithRT B k v T h ts) (ok : OkR T) : ts.flatMap (Proofs.YtechahocffcbpaaGreatDoor.ents h) = insE (entsT T) k v := by
  cases hw with
  | none u hu hb =>
    show u.2 ++ [] = _
    rw [hu]; rfl
  | some hw => exact hw.ents ok.1 ok.2.2
theorem WithRT.ok {B : Nat} {k : ByteArray} {v : Val} {T : RT} {h : Nat} {ts : List (PT h)} (hw : WithRT B k v T h ts) (ok : OkR T) : (∀ u ∈ ts, OkT h u ∧ 1 ≤ size h u) ∧ (2 ≤ ts.length → ∀ u ∈ ts, 4 ≤ size h u) := by
  cases hw with
  | none u hu hb =>
    refine ⟨fun x hx => ?_, fun h => by simp at h⟩
    obtain rfl : x = u := by simpa using hx
    exact ⟨show x.2.length ≤ 8 by rw [hu]; simp, show 1 ≤ x.2.length by rw [hu]; simp⟩
  | some hw => exact ⟨fun u hu => ⟨(hw.ok ok.1).1 u hu |>.1, ((hw.ok ok.1).1 u hu).2.1⟩, (hw.ok ok.1).2⟩
theorem PutR.ents {B : Nat} {k : ByteArray} {v : Val} {T T' : RT} (hp : PutR B k v T T') (ok : OkR T) : entsT T' = insE (entsT T) k v := by
  cases hp with
  | one hw => have := hw.ents ok; simpa [entsT] using this
  | two hw hc hb =>
    rename_i h a b c
    have := hw.ents ok
    rw [← this, ← hc]; rfl
theorem PutR.ok {B : Nat} {k : ByteArray} {v : Val} {T T' : RT} (hp : PutR B k v T T') (ok : OkR T) : OkR T' := by
  have hs : Sorted (entsT T') := by rw [hp.ents ok]; exact insE_sorted ok.sorted k v
  cases hp with
  | one hw => rename_i h a; exact ⟨((hw.ok ok).1 a (by simp)).1, ((hw.ok ok).1 a (by simp)).2, hs⟩
  | two hw hc hb =>
    rename_i h a b c
    have h1 := hw.ok ok
    refine ⟨⟨by rw [hc]; simp, by rw [hc]; simp, fun x hx => ?_⟩, show 1 ≤ c.2.length by rw [hc]; simp, hs⟩
    rw [hc] at hx
    exact ⟨(h1.1 x hx).1, h1.2 (by simp) x hx⟩
theorem Rd.of_blk {w : World} {g : Nat} {t : TypeId} {cs : List Value} (hb : Blk w g t cs.toArray) (hm : cs.length ≤ maxLen) : Rd w (fun b => b = g) 1 ⟨some ⟨g, 0, none⟩, cs.length⟩ cs.length cs :=
  ⟨g, 0, .some _ _ _ _ (Nat.le_refl _) hm rfl, (Nat.mul_one _).symm, fun j u hj => by rw [Nat.zero_add, hb.cell]; simpa using hj⟩
def WithPostT (F : Nat → Prop) (T : RT) (k : ByteArray) (v : Val) (w : World) (e : Ending) (w' : World) : Prop :=
  ∃ (h : Nat) (a : PT h) (r : Value) (rs : List (PT h)), e = .returned (.tuple #[ptr h a, r]) ∧ ((r = .pointer none ∧ rs = [a]) ∨ ∃ b, r = ptr h b ∧ rs = [a, b]) ∧ WithRT w.heap.size k v T h rs ∧ (∀ u ∈ rs, IsN w' (Up F w w') h u) ∧ Ext w w'
theorem withT_any {w : World} {F : Nat → Prop} {T : RT} (hF : ∀ b, F b → b < w.heap.size) (hT : IsT w F T) (ok : OkR T) (hc : (entsT T).length ≤ 1000000) {k : ByteArray} {v : Val} {sl so : Sl} (hkm : k.size ≤ maxLen) (hv : RV w (Lt w.heap.size) v sl so) :
    Calls Tryz.prog 66 #[rootV T, aggE k v sl so] w (WithPostT F T k v w) := by
  match T, hT, ok, hc with
  | none, _, _, _ =>
    refine (with_leaf (nv := .pointer none) (es := []) (fun W hW => (height_nil W)) (fun W hW => (entries_nil W).mono ?_) List.Pairwise.nil (by simp) hv hkm).mono ?_
    · rintro e w' ⟨rfl, rfl⟩
      exact ⟨Sl.none, [], rfl, rfl, OE.nil _ _, Ext.refl _⟩
    · rintro e w' ⟨ts, rfl, h1, h2, h3⟩
      obtain ⟨u, rfl, hu⟩ := one0 (h1.trans (show chunk (insE [] k v) = [[(k, v)]] from rfl))
      exact ⟨0, u, _, _, rfl, .inl ⟨rfl, rfl⟩, .none u hu (h2 u (by simp)).1, fun x hx => (h2 x hx).2.mono fun i hi => .inr hi, h3⟩
  | some ⟨h, t⟩, hT, ok, hc =>
    refine (with_any hkm h w F t hF hT ok.1 ok.2.2 hc hv).mono ?_
    intro e w' p
    obtain ⟨a, r, rs, rfl, h1, h2, h3, h4⟩ := p.apart
    exact ⟨h, a, r, rs, rfl, h1, .some h2, h3, h4⟩
def PutPost (F : Nat → Prop) (T : RT) (k : ByteArray) (v : Val) (w : World) (e : Ending) (w' : World) : Prop :=
  ∃ T', e = .returned (treeV T') ∧ PutR w.heap.size k v T T' ∧ IsT w' (Up F w w') T' ∧ Ext w w'
theorem put_any {w : World} {F : Nat → Prop} {T : RT} (hF : ∀ b, F b → b < w.heap.size) (hT : IsT w F T) (ok : OkR T) (hc : (entsT T).length ≤ 1000000) {k : ByteArray} {v : Val} {sl so : Sl} (hkm : k.size ≤ maxLen) (hv : RV w (Lt w.heap.size) v sl so) :
    Calls Tryz.prog 40 #[treeV T, .string k, aggV v sl so] w (PutPost F T k v w) := by
  have hcw : ∀ W, Ext w W → Calls Tryz.prog 66 #[rootV T, aggE k v sl so] W (WithPostT F T k v W) := fun W hW =>
    withT_any (fun b hb => Nat.lt_of_lt_of_le (hF b hb) hW.size) (hT.agree (hW.agree hF)) ok hc hkm ((hv.agree (hW.agree fun _ h => h)).mono fun i hi => Nat.lt_of_lt_of_le hi hW.size)
  have HW := Lib.hid hcw
  have HF := Lib.hid hF
  have HOK := Lib.hid ok
  clear hF hT ok hv hcw
  go_enter Tryz.func40, Tryz.ntmps40
  go_wp2_with fail
  have hx3 : Ext w (((w.alloc (.cells #[rootV T] 25)).alloc (.cells #[.int .i64 v.kind, .bool v.b, .int .i64 v.i, .string v.t, .slice sl.a v.l.length sl.c, .slice so.a v.ok.length so.c] 34)).alloc (.cells #[.pointer none] 25)) := (((Ext.refl w).alloc _ _).alloc _ _).alloc _ _
  have hb3 : Blk (((w.alloc (.cells #[rootV T] 25)).alloc (.cells #[.int .i64 v.kind, .bool v.b, .int .i64 v.i, .string v.t, .slice sl.a v.l.length sl.c, .slice so.a v.ok.length so.c] 34)).alloc (.cells #[.pointer none] 25)) (w.heap.size + 1 + 1) 25 #[.pointer none] := by
    have := Blk.new ((w.alloc (.cells #[rootV T] 25)).alloc (.cells #[.int .i64 v.kind, .bool v.b, .int .i64 v.i, .string v.t, .slice sl.a v.l.length sl.c, .slice so.a v.ok.length so.c] 34)) 25 #[.pointer none]
    simpa using this
  generalize hW3 : World.alloc _ _ = W3 at *
  have hz3 : W3.heap.size = w.heap.size + 1 + 1 + 1 := by rw [← hW3]; simp
  clear hW3
  refine (HW.out _ hx3).mono ?_
  rintro e w4 ⟨h, a, r, rs, rfl, hr, hwr, hwn, hx4⟩
  have hb4 := hb3.ext hx4
  have hX4 := hx3.trans hx4
  have q4 : w4.cell? ⟨w.heap.size + 1 + 1, 0, none⟩ = some (.pointer none) := hb4.cell 0
  have f4 := hb4.frozen 0
  have hl4 := hb4.lt
  have HWR := Lib.hid hwr
  have HWN := Lib.hid hwn
  have HX := Lib.hid hX4
  have HXX := Lib.hid hx4
  have HB4 := Lib.hid hb4
  have hnF : ∀ W', ¬ Up F W3 W' (w.heap.size + 1 + 1) := fun W' hf => by
    rcases hf with hf | hf
    · have := HF.out _ hf; omega
    · have := hf.1; omega
  have HNF := Lib.hid hnF
  have hwW : w.heap.size ≤ W3.heap.size := by omega
  clear hb3 hb4 hwr hwn hX4 hx3 hx4 hnF
  rcases hr with ⟨rfl, rfl⟩ | ⟨b, rfl, rfl⟩
  · go_wp2_with fail
    have q0 : (w4.setCell ⟨w.heap.size + 1 + 1, 0, none⟩ (ptr h a)).cell? ⟨w.heap.size + 1 + 1, 0, none⟩ = some (ptr h a) := World.cell?_setCell_same w4 _ _ q4
    refine bodyPost_ret (v := treeV (some ⟨h, a⟩)) (by simp [results, Tryz.results40, go_sem, q0]; rfl) rfl ?_
    refine ⟨some ⟨h, a⟩, rfl, .one ?_, ?_, HX.out.setCell (p := ⟨w.heap.size + 1 + 1, 0, none⟩) (by show w.heap.size ≤ w.heap.size + 1 + 1; omega) _⟩
    · exact HWR.out.mono hwW
    · show IsN _ _ h a
      refine ((HWN.out a (by simp)).agree (Agree.setCell w4 ⟨w.heap.size + 1 + 1, 0, none⟩ _ (HNF.out w4))).mono fun i hi => hi.elim .inl fun hi => .inr ⟨Nat.le_trans hwW hi.1, by rw [World.size_setCell]; exact hi.2⟩
  · have hE5 : Ext w4 (w4.alloc (.cells #[ptr h a, ptr h b] 23)) := (Ext.refl _).alloc _ _
    have hb5 : Blk (w4.alloc (.cells #[ptr h a, ptr h b] 23)) w4.heap.size 23 (ptrs h [a, b]).toArray := Blk.new w4 23 #[ptr h a, ptr h b]
    have hz5 : (w4.alloc (.cells #[ptr h a, ptr h b] 23)).heap.size = w4.heap.size + 1 := by simp
    go_wp2_with fail
    change Calls _ _ _ (w4.alloc (.cells #[ptr h a, ptr h b] 23)) _
    generalize w4.alloc (.cells #[ptr h a, ptr h b] 23) = W5 at *
    have he := HWR.out.ents HOK.out
    have hko := HWR.out.ok HOK.out
    have hps : ∀ x ∈ [a, b], 0 < (ents h x).length := fun x hx => ents_pos h x (hko.1 x hx).1 (hko.1 x hx).2
    have hso : Sorted ([a, b].flatMap (ents h)) := by rw [he]; exact insE_sorted HOK.out.sorted k v
    have hkids : Kids W5 (Up F W3 W5) h [a, b] := by
      refine ⟨fun b hb => hb.elim (fun h => Nat.lt_of_lt_of_le (HF.out b h) (by have := HX.out.size; omega)) fun h => h.2, fun x hx => ?_, rising_of hso hps, hps, fun x hx => by have := size_le8 (hko.1 x hx).1; omega, by
        have := insE_len (entsT T) k v
        unfold cnt; rw [he]; omega, by have := HWR.out.height HOK.out; omega⟩
      exact ((HWN.out x hx).agree (hE5.agree fun i hi => hi.elim (fun h => Nat.lt_of_lt_of_le (HF.out i h) HX.out.size) fun h => h.2)).mono fun i hi => hi.elim .inl fun hi => .inr ⟨hi.1, by omega⟩
    have hin := tinner_any (w := W5) (n := 2) (s := ⟨some ⟨w4.heap.size, 0, none⟩, 2⟩) ((Rd.of_blk hb5 (by simp [ptrs]; decide)).mono fun i hi => by subst hi; omega) rfl hkids (by simp) (by simp)
    have HE5 := Lib.hid hE5
    clear hE5 hb5 he hko hps hso hkids
    refine hin.mono ?_
    rintro e w6 ⟨c, rfl, hc2, hca, hcn, hx6⟩
    have HCN := Lib.hid hcn
    have q6 : w6.cell? ⟨w.heap.size + 1 + 1, 0, none⟩ = some (.pointer none) := ((HE5.out.trans hx6).cell hl4).trans q4
    have f6 : w6.frozen? ⟨w.heap.size + 1 + 1, 0, none⟩ = false := ((HE5.out.trans hx6).frozen hl4).trans f4
    have HX6 := Lib.hid hx6
    clear hin hcn q4 f4 hx6
    go_wp2_with fail
    have q0 : (w6.setCell ⟨w.heap.size + 1 + 1, 0, none⟩ (ptr (h + 1) c)).cell? ⟨w.heap.size + 1 + 1, 0, none⟩ = some (ptr (h + 1) c) := World.cell?_setCell_same w6 _ _ q6
    refine bodyPost_ret (v := treeV (some ⟨h + 1, c⟩)) (by simp [results, Tryz.results40, go_sem, q0]; rfl) rfl ?_
    have hw5 : w.heap.size ≤ W5.heap.size := by have := HX.out.size; omega
    refine ⟨some ⟨h + 1, c⟩, rfl, .two (HWR.out.mono hwW) hc2 (Nat.le_trans hw5 hca), ?_, ((HX.out.trans HE5.out).trans HX6.out).setCell (p := ⟨w.heap.size + 1 + 1, 0, none⟩) (by show w.heap.size ≤ w.heap.size + 1 + 1; omega) _⟩
    show IsN _ _ (h + 1) c
    refine (HCN.out.agree (Agree.setCell w6 ⟨w.heap.size + 1 + 1, 0, none⟩ _ ?_)).mono fun i hi => ?_
    · rintro (hf | hf)
      · exact HNF.out W5 hf
      · have : W5.heap.size ≤ w.heap.size + 1 + 1 := hf.1
        omega
    · rcases hi with (hi | hi) | hi
      · exact .inl hi
      · exact .inr ⟨Nat.le_trans hwW hi.1, by rw [World.size_setCell]; exact Nat.lt_of_lt_of_le hi.2 HX6.out.size⟩
      · exact .inr ⟨Nat.le_trans hw5 hi.1, by rw [World.size_setCell]; exact hi.2⟩
theorem Blk.c3 {w : World} {g : Nat} {t : TypeId} {v0 v1 v2 : Value} (h : Blk w g t #[v0, v1, v2]) : w.cell? ⟨g, 0, none⟩ = some v0 ∧ w.cell? ⟨g, 1, none⟩ = some v1 ∧ w.cell? ⟨g, 2, none⟩ = some v2 := ⟨h.cell 0, h.cell 1, h.cell 2⟩
theorem RV.flat (w : World) (F : Nat → Prop) (kind : Int) (b : Bool) (i : Int) (t : ByteArray) (hk : (Lit.int .i64 kind).wf = true) (hi : (Lit.int .i64 i).wf = true) (ht : t.size ≤ maxLen) : RV w F (.mk kind b i t [] [] []) Sl.none Sl.none :=
  .mk 0 0 0 0 (fun _ => (Sl.none, Sl.none)) (fun _ => (Sl.none, Sl.none)) (.nil _ _) (.nil _ _) rfl (fun _ _ h => by simp at h) (fun _ _ h => by simp at h) (fun _ _ h => by simp at h) (fun _ _ h => by simp at h) (fun _ _ h => by simp at h) hk hi ht (by simp) (by simp)
theorem IsT.lt {w : World} {F : Nat → Prop} {T : RT} (h : IsT w F T) {a : Nat} (ha : rootV T = .pointer (some ⟨a, 0, none⟩)) : a < w.heap.size := by
  match T, h with
  | none, _ => cases ha
  | some ⟨n, t⟩, h =>
    simp only [rootV, ptr, Value.pointer.injEq, Option.some.injEq, Addr.mk.injEq, and_true] at ha
    subst ha
    obtain ⟨-, _, _, _, _, -, hb⟩ := IsN.cells h
    exact hb.lt
theorem pos_split (es : List Ent) (k : ByteArray) (hs : Sorted es) : (∀ e ∈ es.take (posE es k), klt e.1 k = true) ∧ (∀ e ∈ es.drop (posE es k), klt e.1 k = false) := by
  have e1 : es.take (posE es k) = es.takeWhile fun e => klt e.1 k := (List.prefix_iff_eq_take.1 (List.takeWhile_prefix (l := es) (fun e : Ent => klt e.1 k))).symm
  have e2 : es.drop (posE es k) = es.dropWhile fun e => klt e.1 k := by
    have h1 := List.take_append_drop (posE es k) es
    rw [e1] at h1
    have h2 := List.takeWhile_append_dropWhile (p := fun e : Ent => klt e.1 k) (l := es)
    exact List.append_cancel_left (h1.trans h2.symm)
  refine ⟨fun e he => ?_, fun e he => ?_⟩
  · rw [e1] at he
    exact List.all_eq_true.1 (List.all_takeWhile (l := es) (p := fun e : Ent => klt e.1 k)) e he
  · have hsd : Sorted (es.drop (posE es k)) := List.Pairwise.sublist (List.drop_sublist _ _) hs
    rw [e2] at he hsd
    cases hd : es.dropWhile fun e => klt e.1 k with
    | nil => rw [hd] at he; cases he
    | cons x xs =>
      rw [hd] at he hsd
      have hx : klt x.1 k = false := by
        have := List.head?_dropWhile_not (fun e : Ent => klt e.1 k) es
        rw [hd] at this
        simpa using this
      rcases List.mem_cons.1 he with rfl | he
      · exact hx
      · have := (List.pairwise_cons.1 hsd).1 e he
        cases hc : klt e.1 k
        · rfl
        · rw [klt_trans this hc] at hx; cases hx
theorem getE_pos {es : List Ent} (hs : Sorted es) (k : ByteArray) : getE es k = (es[posE es k]?).bind fun e => if e.1 = k then some e.2 else none := by
  obtain ⟨hA, hB⟩ := pos_split es k hs
  have hsd : Sorted (es.drop (posE es k)) := List.Pairwise.sublist (List.drop_sublist _ _) hs
  conv => lhs; rw [← List.take_append_drop (posE es k) es]
  rw [getE_app hA, ← Nat.add_zero (posE es k), ← List.getElem?_drop, Nat.add_zero]
  cases hd : es.drop (posE es k) with
  | nil => rfl
  | cons x xs =>
    rw [hd] at hsd hB
    simp only [List.getElem?_cons_zero, Option.bind_some, getE]
    by_cases hx : x.1 = k
    · simp [hx]
    · simp only [hx, if_false]
      refine getE_none fun e he => ?_
      have h1 := klt_of_not (hB x (List.mem_cons_self ..)) hx
      have h2 := klt_trans h1 ((List.pairwise_cons.1 hsd).1 e he)
      rintro rfl
      rw [klt_irrefl] at h2; cases h2
theorem delE_pos {es : List Ent} (hs : Sorted es) (k : ByteArray) : delE es k = if (es[posE es k]?).map Prod.fst = some k then es.take (posE es k) ++ es.drop (posE es k + 1) else es := by
  obtain ⟨hA, hB⟩ := pos_split es k hs
  conv => lhs; rw [← List.take_append_drop (posE es k) es]
  rw [delE_app hA, delE_at hB, List.head?_drop, List.tail_drop]
  split
  · rfl
  · rw [List.take_append_drop]
def GetPost (o : Option Val) (w : World) (e : Ending) (w' : World) : Prop :=
  ∃ sl so, e = .returned (.tuple #[aggV (o.getD zeroV) sl so, .bool o.isSome]) ∧ Ext w w' ∧ RV w' (In w.heap.size w'.heap.size) (o.getD zeroV) sl so
/-- The closure of get. -/
theorem get1_any {W : World} {nv : Value} {b1 b2 : Nat} {k k' : ByteArray} {v : Val} {i : Nat} (h1 : W.cell? ⟨b1, 0, none⟩ = some nv) (h2 : W.cell? ⟨b2, 0, none⟩ = some (.string k))
    (hp : ∃ p, nv = .pointer p) (hc : Calls Tryz.prog 75 #[nv, .int .i64 i] W (EntryPost k' v W)) :
    Calls Tryz.prog 74 #[.int .i64 i, .pointer (some ⟨b1, 0, none⟩), .pointer (some ⟨b2, 0, none⟩)] W fun e w' => e = .returned (.bool !(klt k' k)) ∧ Ext W w' := by
  obtain ⟨p, rfl⟩ := hp
  have hb2 := World.block_lt_of_cell? W _ h2
  go_enter Tryz.func74, Tryz.ntmps74
  go_wp2_with fail
  refine hc.mono ?_
  rintro e w1 ⟨sl, so, rfl, hx, -⟩
  have q2 := (hx.cell hb2).trans h2
  have l2 : b2 < w1.heap.size := Nat.lt_of_lt_of_le hb2 hx.size
  have HX := Lib.hid hx
  clear hc hx h2
  go_wp2
  go_ret
  exact ⟨rfl, HX.out.alloc _ _⟩
structure GetS (w : World) (nv : Value) (k : ByteArray) (W : World) : Prop where
  ext : Ext w W
  b0 : Blk W w.heap.size 23 #[nv]
  b1 : Blk W (w.heap.size + 1) 9 #[.string k]
  b2 : Blk W (w.heap.size + 1 + 1) 34 #[.int .i64 0, .bool false, .int .i64 0, .string ByteArray.empty, .slice none 0 0, .slice none 0 0]
theorem GetS.step {w W W' : World} {nv : Value} {k : ByteArray} (h : GetS w nv k W) (he : Ext W W') : GetS w nv k W' := ⟨h.ext.trans he, h.b0.ext he, h.b1.ext he, h.b2.ext he⟩
theorem entry_nil (w : World) (i : Int) : Calls Tryz.prog 75 #[.pointer none, .int .i64 i] w fun e w' => e = .returned (.tuple #[aggE ByteArray.empty zeroV Sl.none Sl.none, .bool false]) ∧ Ext w w' := by
  go_enter Tryz.func75, Tryz.ntmps75
  go_wp2_with fail
  refine bodyPost_ret (v := .tuple #[aggE ByteArray.empty zeroV Sl.none Sl.none, .bool false]) (by simp [results, Tryz.results75, go_sem]; exact ⟨rfl, rfl, rfl, rfl, rfl, rfl, rfl⟩) rfl ⟨rfl, (Ext.refl w).alloc _ _⟩
theorem get_leaf {w : World} {nv : Value} {es : List Ent} (hp : ∃ p, nv = .pointer p) (hh : ∀ W, Ext w W → Calls Tryz.prog 69 #[nv] W fun e w' => e = .returned (.int .i64 0) ∧ W = w')
    (hz : ∀ W, Ext w W → Calls Tryz.prog 73 #[nv] W fun e w' => e = .returned (.int .i64 es.length) ∧ ∃ q, w' = W.drewN q)
    (he : ∀ W, Ext w W → ∀ (i : Nat) (e : Ent), es[i]? = some e → Calls Tryz.prog 75 #[nv, .int .i64 i] W (EntryPost e.1 e.2 W))
    (hno : ∀ W, Ext w W → ∀ i : Nat, es.length ≤ i → Calls Tryz.prog 75 #[nv, .int .i64 i] W fun e w' => e = .returned (.tuple #[aggE ByteArray.empty zeroV Sl.none Sl.none, .bool false]) ∧ Ext W w')
    (hs : Sorted es) (hl : es.length ≤ 1000) (k : ByteArray) : Calls Tryz.prog 42 #[nv, .string k] w (GetPost (getE es k) w) := by
  have HH := Lib.hid hh
  have HZ := Lib.hid hz
  have HE := Lib.hid he
  have HNO := Lib.hid hno
  have HS := Lib.hid hs
  obtain ⟨pp, rfl⟩ := hp
  clear hh hz he hno hs
  have hsr : ∀ W, GetS w (.pointer pp) k W → Calls Tryz.prog 72 #[.int .i64 es.length, .func (.func 74) #[] #[.pointer (some ⟨w.heap.size, 0, none⟩), .pointer (some ⟨w.heap.size + 1, 0, none⟩)]] W (SearchPost es.length (fun i => !(klt ((es[i]?.map Prod.fst).getD ByteArray.empty) k)) W) := by
    intro W hW
    refine search_any 74 _ _ es.length _ W (enters_of Tryz.func74 (by kernel_rfl) rfl) (by omega) ?_ ?_
    · intro i W' hi hW'
      obtain ⟨x, hx⟩ : ∃ x, es[i]? = some x := ⟨_, List.getElem?_eq_getElem hi⟩
      rw [hx]
      have hS := hW.step hW'
      exact get1_any (hS.b0.cell 0) (hS.b1.cell 0) ⟨_, rfl⟩ (HE.out W' hS.ext i x hx)
    · intro i j hij hj hpi
      by_cases hij' : i = j
      · subst hij'; exact hpi
      · obtain ⟨x, hx⟩ : ∃ x, es[i]? = some x := ⟨_, List.getElem?_eq_getElem (by omega)⟩
        obtain ⟨y, hy⟩ : ∃ y, es[j]? = some y := ⟨_, List.getElem?_eq_getElem hj⟩
        have hxy := sorted_lt HS.out (i := i) (j := j) (by omega) hx hy
        rw [hx] at hpi; rw [hy]
        simp only [Option.map_some, Option.getD_some, Bool.not_eq_true'] at hpi ⊢
        cases hyk : klt y.1 k
        · rfl
        · have := klt_trans hxy hyk
          rw [hpi] at this; cases this
  go_enter Tryz.func42, Tryz.ntmps42
  go_wp2_with fail
  generalize hW0 : World.alloc _ _ = W0
  obtain ⟨hx0, hz0, hb0, hb1, hb2⟩ := three_blocks w _ _ _ _ _ _ W0 hW0
  have hS0 : GetS w (.pointer pp) k W0 := ⟨hx0, hb0, hb1, hb2⟩
  have HS0 := Lib.hid hS0
  have q0 : W0.cell? ⟨w.heap.size, 0, none⟩ = some (.pointer pp) := hb0.cell 0
  clear hW0 hb0 hb1 hb2 hS0
  refine (HH.out W0 hx0).mono ?_
  rintro e w1 ⟨rfl, rfl⟩
  go_wp2_with fail
  refine (HZ.out W0 hx0).mono ?_
  rintro e w1 ⟨rfl, q, rfl⟩
  go_wp2_with fail
  refine (hsr _ (HS0.out.step ((Ext.refl _).drewN q))).mono ?_
  rintro e w1 ⟨p, rfl, hp, hlo, hhi, he1⟩
  have hS1 := HS0.out.step (((Ext.refl _).drewN q).trans he1)
  have HS1 := Lib.hid hS1
  have r0 : w1.cell? ⟨w.heap.size, 0, none⟩ = some (.pointer pp) := hS1.b0.cell 0
  have hpos : posE es k = p := posE_of hp (fun i e hi he => by
      have : (!(klt ((es[i]?.map Prod.fst).getD ByteArray.empty) k)) = false := hlo i hi
      rw [he] at this
      simpa using this) (fun e he => by
      have : (!(klt ((es[p]?.map Prod.fst).getD ByteArray.empty) k)) = true := hhi p (Nat.le_refl _) (List.getElem?_eq_some_iff.1 he).1
      rw [he] at this
      simpa using this)
  have hget : getE es k = (es[p]?).bind fun e => if e.1 = k then some e.2 else none := by rw [getE_pos HS.out, hpos]
  have HG := Lib.hid hget
  clear hlo hhi hpos hsr he1 hS1 q0 hget hx0 hz0
  go_wp2_with fail
  by_cases hlt : p < es.length
  · obtain ⟨x, hx⟩ : ∃ x, es[p]? = some x := ⟨_, List.getElem?_eq_getElem hlt⟩
    have hc := HE.out w1 HS1.out.ext p x hx
    have HX := Lib.hid hx
    clear hx
    refine hc.mono ?_
    rintro e w2 ⟨sl, so, rfl, hx2, hrv⟩
    have hS2 := HS1.out.step hx2
    have HS2 := Lib.hid hS2
    have q1 : w2.cell? ⟨w.heap.size + 1, 0, none⟩ = some (.string k) := hS2.b1.cell 0
    obtain ⟨c0, c1, c2, c3, c4, c5⟩ := hS2.b2.c6
    have f2 := hS2.b2.frozen
    have l2 := hS2.b2.lt
    have l1 : w.heap.size + 1 < w2.heap.size := by omega
    have HRV := Lib.hid hrv
    clear hS2 hx2 hrv hc
    by_cases hk : x.1 = k
    · have hkb : (x.1.toList == k.toList) = true := by rw [beq_toList]; simpa using hk
      have hg : getE es k = some x.2 := by rw [HG.out, HX.out]; simp [hk]
      have HGG := Lib.hid hg
      clear hk hg
      go_wp2_with fail
      refine bodyPost_ret (v := .tuple #[aggV x.2 sl so, .bool true]) (by simp [results, Tryz.results42, go_sem, c0, c1, c2, c3, c4, c5, l2]) rfl ?_
      have hE := HS2.out.ext.putV (b := w.heap.size + 1 + 1) (by omega) 0 x.2 sl so
      have hr := (HRV.out.mono (G := In w.heap.size w2.heap.size) fun i hi => ⟨Nat.le_trans HS1.out.ext.size hi.1, hi.2⟩)
      have hr2 : RV w2 (fun b => In w.heap.size w2.heap.size b ∧ b ≠ w.heap.size + 1 + 1) x.2 sl so := HRV.out.mono fun i hi => ⟨⟨Nat.le_trans HS1.out.ext.size hi.1, hi.2⟩, by have := HS1.out.b2.lt; have := hi.1; omega⟩
      have hr3 := hr2.agree (putV_agree w2 (w.heap.size + 1 + 1) 0 x.2 sl so (F := fun b => In w.heap.size w2.heap.size b ∧ b ≠ w.heap.size + 1 + 1) (fun h => h.2 rfl))
      refine ⟨sl, so, by rw [HGG.out]; rfl, hE.alloc _ _, ?_⟩
      rw [HGG.out]
      refine (hr3.agree (Agree.alloc _ _ (fun b hb => by rw [putV_size]; exact hb.1.2))).mono fun i hi => ⟨hi.1.1, ?_⟩
      have := hi.1.2
      simp; omega
    · have hkb : (x.1.toList == k.toList) = false := by rw [beq_toList]; simpa using hk
      have hg : getE es k = none := by rw [HG.out, HX.out]; simp [hk]
      have HGG := Lib.hid hg
      clear hk hg
      go_wp2_with fail
      refine bodyPost_ret (v := .tuple #[aggV zeroV Sl.none Sl.none, .bool false]) (by simp [results, Tryz.results42, go_sem, c0, c1, c2, c3, c4, c5, l2]; exact ⟨rfl, rfl, rfl, rfl, rfl, rfl⟩) rfl ?_
      have hE := HS2.out.ext.putV (b := w.heap.size + 1 + 1) (by omega) 0 zeroV Sl.none Sl.none
      exact ⟨Sl.none, Sl.none, by rw [HGG.out]; rfl, hE.alloc _ _, by rw [HGG.out]; exact RV.flat _ _ _ _ _ _ rfl rfl (by decide)⟩
  · have hnn : es[p]? = none := List.getElem?_eq_none (by omega)
    have hg : getE es k = none := by rw [HG.out, hnn]; rfl
    have hc := HNO.out w1 HS1.out.ext p (by omega)
    have HGG := Lib.hid hg
    clear hg hnn
    refine hc.mono ?_
    rintro e w2 ⟨rfl, hx2⟩
    have hS2 := HS1.out.step hx2
    have HS2 := Lib.hid hS2
    obtain ⟨c0, c1, c2, c3, c4, c5⟩ := hS2.b2.c6
    have f2 := hS2.b2.frozen
    have l2 := hS2.b2.lt
    clear hS2 hx2 hc
    go_wp2_with fail
    refine bodyPost_ret (v := .tuple #[aggV zeroV Sl.none Sl.none, .bool false]) (by simp [results, Tryz.results42, go_sem, c0, c1, c2, c3, c4, c5, l2]; exact ⟨rfl, rfl, rfl, rfl, rfl, rfl⟩) rfl ?_
    have hE := HS2.out.ext.putV (b := w.heap.size + 1 + 1) (by omega) 0 zeroV Sl.none Sl.none
    exact ⟨Sl.none, Sl.none, by rw [HGG.out]; rfl, hE.alloc _ _, by rw [HGG.out]; exact RV.flat _ _ _ _ _ _ rfl rfl (by decide)⟩
theorem get_nil (w : World) (k : ByteArray) : Calls Tryz.prog 42 #[.pointer none, .string k] w (GetPost none w) :=
  get_leaf (es := []) ⟨_, rfl⟩ (fun W _ => height_nil W) (fun W _ => (size_nil W).mono fun e w' ⟨h1, h2⟩ => ⟨h1, 0, h2.symm⟩) (fun W _ i e h => by simp at h) (fun W _ i _ => entry_nil W i) List.Pairwise.nil (by simp) k
theorem get_zero {w : World} {t : PT 0} (hn : IsN w (Lt w.heap.size) 0 t) (ok : OkT 0 t) (hs : Sorted (ents 0 t)) (k : ByteArray) : Calls Tryz.prog 42 #[ptr 0 t, .string k] w (GetPost (getE (ents 0 t) k) w) := by
  have ok8 : (ents 0 t).length ≤ 8 := ok
  exact get_leaf ⟨_, rfl⟩ (fun W hW => height_any (hn.ext hW)) (fun W hW => size_any (hn.ext hW) (Nat.le_trans ok8 (by decide))) (fun W hW i e h => entry_any (hn.ext hW) h) (fun W hW i h => entry_none (hn.ext hW) (.inr (Int.ofNat_le.2 h))) hs (Nat.le_trans ok8 (by decide)) k
theorem get_succ {h : Nat} {k : ByteArray}
    (ih : ∀ (w : World) (F : Nat → Prop) (t : PT h), (∀ b, F b → b < w.heap.size) → IsN w F h t → OkT h t → Sorted (ents h t) → (ents h t).length ≤ 1000000 → Calls Tryz.prog 42 #[ptr h t, .string k] w (GetPost (getE (ents h t) k) w))
    {w : World} {F : Nat → Prop} {t : PT (h + 1)} (hF : ∀ b, F b → b < w.heap.size) (hn : IsN w F (h + 1) t) (ok : OkT (h + 1) t) (hs : Sorted (ents (h + 1) t)) (hc : (ents (h + 1) t).length ≤ 1000000) :
    Calls Tryz.prog 42 #[ptr (h + 1) t, .string k] w (GetPost (getE (ents (h + 1) t) k) w) := by
  have hpos := kids_pos ok
  have hh : h + 1 < 1000000 := Nat.lt_of_lt_of_le (height_lt (h + 1) t ok (by have := ok.1; show 1 ≤ t.2.length; omega)) hc
  obtain ⟨kid, hkid, hA, hC⟩ := which_split (h := h) (ks := t.2) hs hpos (by have := ok.1; omega) k
  have hkm' := List.mem_of_getElem? hkid
  have hil := (List.getElem?_eq_some_iff.1 hkid).1
  have hlen8 := ok.2.1
  have hks : ∀ x ∈ t.2, IsN w F h x := hn.2.choose_spec.2.2
  have hkc : (ents h kid).length ≤ 1000000 := Nat.le_trans (by
    show _ ≤ (t.2.flatMap (ents h)).length
    rw [take_mid hkid]; simp only [List.flatMap_append, List.flatMap_cons, List.length_append]; omega) hc
  have hge : getE (ents (h + 1) t) k = getE (ents h kid) k := getE_kid hkid hA hC
  rw [hge]
  have hih : ∀ W, Ext w W → Calls Tryz.prog 42 #[ptr h kid, .string k] W (GetPost (getE (ents h kid) k) W) := fun W hW =>
    ih W F kid (fun b hb => Nat.lt_of_lt_of_le (hF b hb) hW.size) ((hks kid hkm').agree (hW.agree hF)) (ok.2.2 kid hkm').1 (kid_sorted hs kid hkm') hkc
  generalize getE (ents h kid) k = og at *
  clear hge
  have HF := Lib.hid hF
  have HN := Lib.hid hn
  have HS := Lib.hid hs
  have HP := Lib.hid hpos
  have HIH := Lib.hid hih
  have HKS := Lib.hid hks
  have HKID := Lib.hid hkid
  have hgt : (0 : Int) < (h : Int) + 1 := by omega
  clear hF hn ok hs hc hpos hih hks hkid hA hC ih hkc
  go_enter Tryz.func42, Tryz.ntmps42
  go_wp2_with fail
  generalize hW0 : World.alloc _ _ = W0
  obtain ⟨hx0, hz0, hb0, hb1, hb2⟩ := three_blocks w _ _ _ _ _ _ W0 hW0
  have hS0 : GetS w (ptr (h + 1) t) k W0 := ⟨hx0, hb0, hb1, hb2⟩
  have HS0 := Lib.hid hS0
  have q0 : W0.cell? ⟨w.heap.size, 0, none⟩ = some (ptr (h + 1) t) := hb0.cell 0
  clear hW0 hb0 hb1 hb2 hS0
  have hnW : IsN W0 F (h + 1) t := HN.out.agree (hx0.agree HF.out)
  refine (height_any hnW).mono ?_
  rintro e w1 ⟨rfl, rfl⟩
  have hkc := kids_any hnW (by omega)
  clear hnW
  go_wp2_with fail
  refine hkc.mono ?_
  rintro e w1 ⟨s', rfl, hown, hx1⟩
  have hS1 := HS0.out.step hx1
  have HS1 := Lib.hid hS1
  have hrd : Rd w1 (Lt w1.heap.size) 1 s' t.2.length (ptrs h t.2) := (Rd.of_own hown).mono fun i hi => hi.2
  obtain ⟨g, cap, rfl, hbg, hnc, hcm, hfil⟩ := own_block hown (by omega)
  obtain ⟨i, hi⟩ : ∃ i, whichK h t.2 k = i := ⟨_, rfl⟩
  have hwh : ∀ W, Ext w1 W → Calls Tryz.prog 71 #[.slice (some ⟨g, 0, none⟩) t.2.length cap, .string k] W fun e w' => e = .returned (.int .i64 i) ∧ Ext W w' := fun W hW => by
    rw [← hi]
    exact which_any (s := ⟨some ⟨g, 0, none⟩, cap⟩) ((hrd.agree (hW.agree fun _ h => h)).mono fun i hi => Nat.lt_of_lt_of_le hi hW.size) (fun x hx => (HKS.out x hx).agree ((hS1.ext.trans hW).agree HF.out)) (fun b hb => Nat.lt_of_lt_of_le (HF.out b hb) (hS1.ext.trans hW).size) HP.out k HS.out (by omega)
  have hkid := HKID.out
  rw [hi] at hkid hil
  obtain ⟨b, o, hba, hbl, -, -, hbc⟩ := hrd.ptr_at hkid
  obtain ⟨rfl, rfl⟩ : g = b ∧ 0 = o := by simpa using hba
  have kc : w1.cell? ⟨g, i, none⟩ = some (ptr h kid) := by simpa using hbc
  have k1 : w1.cell? ⟨w.heap.size + 1, 0, none⟩ = some (.string k) := hS1.b1.cell 0
  have hg1 : g < w1.heap.size := hbl
  have hgn : ¬ g = w.heap.size + 1 + 1 := by omega
  have hgn' : ¬ w.heap.size + 1 + 1 = g := by omega
  clear hz0
  have l1 : w.heap.size + 1 < w1.heap.size := hS1.b1.lt
  have hii : (i : Int) < (t.2.length : Int) := by omega
  have hi0 : (0 : Int) ≤ (i : Int) := by omega
  have HWH := Lib.hid hwh
  have HHI := Lib.hid hi
  clear hwh hi hkid hbc hba hfil hown hrd hx1 hx0 hS1 hkc q0
  go_wp2_with fail
  go_region_held3 (fun w' => w'.cell? ⟨g, i, none⟩ = some (ptr h kid) ∧ w'.cell? ⟨w.heap.size + 1, 0, none⟩ = some (.string k)) (first | (with_reducible exact ⟨g3, k3⟩) | (with_reducible exact ⟨g2, k2⟩) | go_keep)
    (first
      | (go_at_call 71; refine (HWH.out _ ?_).mono ?_; (exact ((Ext.refl _).drew)); rintro e w2 ⟨rfl, hx2⟩; have g2 := (hx2.cell (o := i) hg1).trans kc; have k2 := (hx2.cell (o := 0) l1).trans k1; have hg2 := Nat.lt_of_lt_of_le hg1 hx2.size; have l2 := Nat.lt_of_lt_of_le l1 hx2.size)
      | (go_at_call 42; refine (HIH.out _ ?_).mono ?_; (exact HS1.out.ext.trans (((Ext.refl _).drew).trans hx2)); rintro e w3 ⟨sl, so, rfl, hx3, hrv⟩; have g3 := (hx3.cell (o := i) hg2).trans g2; have k3 := (hx3.cell (o := 0) l2).trans k2; have hS3 := HS1.out.step ((((Ext.refl _).drew).trans hx2).trans hx3); obtain ⟨c0, c1, c2, c3, c4, c5⟩ := hS3.b2.c6; have f3 := hS3.b2.frozen; have HS3 := Lib.hid hS3; have HX3 := Lib.hid hx3; have HRV := Lib.hid hrv; have HX2 := Lib.hid hx2; clear hS3 hx3 hrv hx2))
  go_wp2_with fail
  refine bodyPost_ret (v := .tuple #[aggV (og.getD zeroV) sl so, .bool og.isSome]) (by simp [results, Tryz.results42, go_sem, c0, c1, c2, c3, c4, c5]) rfl ?_
  have hE := HS3.out.ext.putV (b := w.heap.size + 1 + 1) (by omega) 0 (og.getD zeroV) sl so
  have hb2 := HS1.out.b2.lt
  have hX2 := HX2.out.size
  have hX3 := HX3.out.size
  have hE1 := HS1.out.ext.size
  rw [World.size_drew] at hX2
  have hr2 : RV w3 (fun b => In w.heap.size w3.heap.size b ∧ b ≠ w.heap.size + 1 + 1) (og.getD zeroV) sl so := HRV.out.mono fun i hi => ⟨⟨by have := hi.1; omega, hi.2⟩, by have := hi.1; omega⟩
  have hr3 := hr2.agree (putV_agree w3 (w.heap.size + 1 + 1) 0 (og.getD zeroV) sl so (F := fun b => In w.heap.size w3.heap.size b ∧ b ≠ w.heap.size + 1 + 1) (fun h => h.2 rfl))
  exact ⟨sl, so, rfl, hE, hr3.mono fun i hi => ⟨hi.1.1, by have := hi.1.2; simpa using this⟩⟩
theorem get_any {k : ByteArray} : ∀ (h : Nat) (w : World) (F : Nat → Prop) (t : PT h), (∀ b, F b → b < w.heap.size) → IsN w F h t → OkT h t → Sorted (ents h t) → (ents h t).length ≤ 1000000 → Calls Tryz.prog 42 #[ptr h t, .string k] w (GetPost (getE (ents h t) k) w)
  | 0, w, F, t, hF, hn, ok, hs, _ => get_zero (hn.mono hF) ok hs k
  | h + 1, w, F, t, hF, hn, ok, hs, hc => get_succ (fun w F t a b c d e => get_any h w F t a b c d e) hF hn ok hs hc
theorem getPost_end {w w3 : World} {b lo : Nat} {og : Option Val} {sl so : Sl} (hE : Ext w w3) (hb : w.heap.size ≤ b) (hlt : b < lo) (hr : RV w3 (In lo w3.heap.size) (og.getD zeroV) sl so) :
    GetPost og w (.returned (.tuple #[aggV (og.getD zeroV) sl so, .bool og.isSome])) (putV w3 b 0 (og.getD zeroV) sl so) := by
  refine ⟨sl, so, rfl, hE.putV hb _ _ _ _, ?_⟩
  rw [putV_size]
  exact (hr.agree (putV_agree w3 b 0 (og.getD zeroV) sl so (by omega))).mono fun i hi => ⟨by omega, hi.2⟩
theorem two_blocks (w : World) (t0 t1 : TypeId) (c0 c1 : Array Value) : ∀ W, (w.alloc (.cells c0 t0)).alloc (.cells c1 t1) = W →
    Ext w W ∧ W.heap.size = w.heap.size + 2 ∧ Blk W w.heap.size t0 c0 ∧ Blk W (w.heap.size + 1) t1 c1 := by
  rintro W rfl
  refine ⟨((Ext.refl w).alloc _ _).alloc _ _, by simp, (Blk.new w t0 c0).alloc _, ?_⟩
  have h := Blk.new (w.alloc (.cells c0 t0)) t1 c1
  rw [World.size_alloc] at h; exact h
theorem getR_any {w : World} {F : Nat → Prop} {T : RT} (hF : ∀ b, F b → b < w.heap.size) (hT : IsT w F T) (ok : OkR T) (hc : (entsT T).length ≤ 1000000) (k : ByteArray) :
    Calls Tryz.prog 42 #[rootV T, .string k] w (GetPost (getE (entsT T) k) w) := by
  match T, hT, ok, hc with
  | none, _, _, _ => exact get_nil w k
  | some ⟨h, t⟩, hT, ok, hc => exact get_any h w F t hF hT ok.1 ok.2.2 hc
theorem treeGet_any {w : World} {F : Nat → Prop} {T : RT} (hF : ∀ b, F b → b < w.heap.size) (hT : IsT w F T) (ok : OkR T) (hc : (entsT T).length ≤ 1000000) (k : ByteArray) :
    Calls Tryz.prog 13 #[treeV T, .string k] w (GetPost (getE (entsT T) k) w) := by
  have hcw : ∀ W, Ext w W → Calls Tryz.prog 42 #[rootV T, .string k] W (GetPost (getE (entsT T) k) W) := fun W hW =>
    getR_any (fun b hb => Nat.lt_of_lt_of_le (hF b hb) hW.size) (hT.agree (hW.agree hF)) ok hc k
  generalize getE (entsT T) k = og at *
  have HW := Lib.hid hcw
  clear hF hT ok hcw
  go_enter Tryz.func13, Tryz.ntmps13
  go_wp2_with fail
  generalize hW0 : World.alloc _ _ = W0
  obtain ⟨hx0, hz0, -, hb1⟩ := two_blocks w _ _ _ _ W0 hW0
  have HZ := Lib.hid hz0
  have HX0 := Lib.hid hx0
  clear hW0 hz0
  refine (HW.out W0 hx0).mono ?_
  rintro e w1 ⟨sl, so, rfl, hx1, hrv⟩
  have hb := hb1.ext hx1
  obtain ⟨c0, c1, c2, c3, c4, c5⟩ := hb.c6
  have f2 := hb.frozen
  have HX1 := Lib.hid hx1
  have HRV := Lib.hid hrv
  clear hb hb1 hx1 hrv hx0
  go_wp2_with fail
  refine bodyPost_ret (v := .tuple #[aggV (og.getD zeroV) sl so, .bool og.isSome]) (by simp [results, Tryz.results13, go_sem, c0, c1, c2, c3, c4, c5]) rfl ?_
  exact getPost_end (HX0.out.trans HX1.out) (b := w.heap.size + 1) (lo := W0.heap.size) (by omega) (by rw [HZ.out]; omega) HRV.out
theorem OE.append {w w' : World} {base : Nat} {s s' : Sl} {xs ys : List LE} {F : Nat → Prop} (ho : OE w base s xs) (hv : Vals w F ys) (hF : ∀ b, F b → base ≤ b ∧ b < w.heap.size ∧ s.row ≠ some b) (hf : (xs.length + ys.length) * 104 ≤ 140737488355328)
    (hown : w'.ownsRow base 64 7 (.slice s'.a (xs.length + ys.length) s'.c) (xs.length + ys.length) (flatE xs ++ flatE ys)) (hwr : Wr w w' s.row) (hs' : s'.row = s.row ∨ ∃ b, s'.row = some b ∧ w.heap.size ≤ b) : OE w' base s' (xs ++ ys) := by
  have hnew : ∀ b, b < w.heap.size → s.row ≠ some b → s'.row ≠ some b := fun b hb hn he => by
    rcases hs' with h | ⟨g, h, hg⟩
    · exact hn (h ▸ he)
    · rw [h] at he; simp at he; omega
  have hag : Agree (fun b => (base ≤ b ∧ b < w.heap.size) ∧ s.row ≠ some b) w w' := hwr.agree (fun i hi => hi.1.2) (fun k hk h => h.2 hk)
  refine ⟨by rw [List.length_append, flatE_app]; exact hown, fun x hx => ?_, by rw [List.length_append]; exact hf⟩
  have hup : ∀ i, ((base ≤ i ∧ i < w.heap.size) ∧ s.row ≠ some i) → (base ≤ i ∧ i < w'.heap.size) ∧ s'.row ≠ some i := fun i hi => ⟨⟨hi.1.1, Nat.lt_of_lt_of_le hi.1.2 hwr.grown.size⟩, hnew i hi.1.2 hi.2⟩
  rcases List.mem_append.1 hx with hx | hx
  · exact ⟨((ho.vals x hx).1.agree hag).mono hup, (ho.vals x hx).2⟩
  · exact ⟨(((hv x hx).1.mono fun i hi => ⟨⟨(hF i hi).1, (hF i hi).2.1⟩, (hF i hi).2.2⟩).agree hag).mono hup, (hv x hx).2⟩
theorem EntriesPost.base {es : List Ent} {w : World} {e : Ending} {w' : World} (h : EntriesPost es w e w') : ∃ (s : Sl) (ys : List LE), e = .returned (.slice s.a ys.length s.c) ∧ ys.map LE.ent = es ∧ OE w' w.heap.size s ys ∧ Ext w w' := h
theorem kids_nil (w : World) : Calls Tryz.prog 70 #[.pointer none] w fun e w' => e = .returned (.slice none 0 0) ∧ w = w' := by
  go_enter Tryz.func70, Tryz.ntmps70
  go_wp2_with fail
  go_ret
  exact ⟨rfl, rfl⟩
theorem countR_any {w : World} {F : Nat → Prop} {T : RT} (hT : IsT w F T) : Calls Tryz.prog 46 #[rootV T] w fun e w' => e = .returned (.int .i64 (entsT T).length) ∧ w = w' := by
  match T, hT with
  | none, _ => exact count_nil w
  | some ⟨h, t⟩, hT => exact count_any hT
theorem treeLen_any {w : World} {F : Nat → Prop} {T : RT} (hF : ∀ b, F b → b < w.heap.size) (hT : IsT w F T) : Calls Tryz.prog 19 #[treeV T] w fun e w' => e = .returned (.int .i64 (entsT T).length) ∧ Ext w w' := by
  have hx : Ext w (w.alloc (.cells #[rootV T] 25)) := (Ext.refl w).alloc _ _
  have hc := countR_any (hT.agree (hx.agree hF))
  clear hF hT
  go_enter Tryz.func19, Tryz.ntmps19
  go_wp2_with fail
  refine hc.mono ?_
  rintro e w' ⟨rfl, rfl⟩
  go_wp2_with fail
  go_ret
  exact ⟨rfl, hx⟩
theorem treeRoot_any (w : World) (v : Value) : Calls Tryz.prog 122 #[.agg #[v]] w fun e w' => e = .returned v ∧ Ext w w' := by
  go_enter Tryz.func122, Tryz.ntmps122
  go_wp2_with fail
  go_ret
  exact ⟨rfl, (Ext.refl w).alloc _ _⟩
structure MapAt (H : Nat → Prop) (w : World) (M : Nat) (es : List Ent) : Prop where
  hm : H M
  ex : ∃ s xs, Blk w M 50 #[.slice s.a xs.length s.c] ∧ ES w (NH H w) s xs ∧ xs.map LE.ent = es
theorem MapAt.st {H G : Nat → Prop} {w w' : World} {M : Nat} {es : List Ent} (h : MapAt H w M es) (k : St G w w') (hG : ∀ b, G b → H b) (hM : ¬ G M) : MapAt H w' M es := by
  obtain ⟨hm, s, xs, hb, hs, hx⟩ := h
  exact ⟨hm, s, xs, k.blk hb hM, (hs.agree (fun b hb => k.block b hb.1 fun hh => hb.2 (hG b hh))).mono fun i hi => ⟨Nat.lt_of_lt_of_le hi.1 k.size, hi.2⟩, hx⟩
theorem MapAt.ext {H : Nat → Prop} {w w' : World} {M : Nat} {es : List Ent} (h : MapAt H w M es) (k : Ext w w') : MapAt H w' M es :=
  h.st (k.st fun _ => False) (fun _ hb => hb.elim) (fun hb => hb)
theorem MapAt.more {H G : Nat → Prop} {w : World} {M : Nat} {es : List Ent} (h : MapAt H w M es) (hH : ∀ b, H b → G b) (hG : ∀ b, b < w.heap.size → G b → H b) : MapAt G w M es := by
  obtain ⟨hm, s, xs, hb, hs, hx⟩ := h
  exact ⟨hH M hm, s, xs, hb, hs.mono fun i hi => ⟨hi.1, fun hg => hi.2 (hG i hi.1 hg)⟩, hx⟩
theorem at07 {H : Nat → Prop} {w : World} {M : Nat} {es : List Ent} (h : MapAt H w M es) (k : ByteArray) : Calls Tryz.prog 50 #[.pointer (some ⟨M, 0, none⟩), .string k] w fun e w' =>
    e = .returned (.tuple #[.int .i64 (posE es k), .bool (decide ((es[posE es k]?).map Prod.fst = some k))]) ∧ ∃ q, w' = w.drewN q := by
  obtain ⟨-, s, xs, hb, hs, rfl⟩ := h
  have h0 : w.cell? ⟨M, 0, none⟩ = some (.slice s.a xs.length s.c) := hb.cell 0
  have hfew := hs.few
  have HS := Lib.hid hs
  clear hb hs
  go_enter Tryz.func50, Tryz.ntmps50
  go_wp2_with fail
  have hnl : xs.length ≤ 140737488355328 := by omega
  go_loopw [6] (fun q wr => ∃ j : Nat, q = .int .i64 j ∧ j ≤ xs.length ∧ (∀ i x, i < j → xs[i]? = some x → klt x.k k = true) ∧ wr = w) (fun q _ => xs.length - (intOf q).toNat)
  case atStart => exact ⟨0, rfl, Nat.zero_le _, fun i x hi => absurd hi (Nat.not_lt_zero _), rfl⟩
  case round =>
    obtain ⟨j, rfl, hj, hp, rfl⟩ := hrel
    have HP := Lib.hid hp
    clear hp
    by_cases h1 : j < xs.length
    · have g1 : (j : Int) < (xs.length : Int) := by omega
      obtain ⟨x, hx⟩ : ∃ x, xs[j]? = some x := ⟨_, List.getElem?_eq_getElem h1⟩
      obtain ⟨g, o, hg, lg, hc, hcm, kx, -, -, -⟩ := HS.out.at hx
      obtain ⟨sa, sc⟩ := s
      dsimp only at hg hc hcm
      subst hg
      have HXX := Lib.hid hx
      clear hx
      cases hkl : klt x.k k with
      | true =>
        have hb1 : Op.bytesLess x.k.toList k.toList = true := hkl
        go_wp2_with fail
        go_roundw
        case rel =>
          refine ⟨j + 1, by go_num, h1, fun i y hi hy => ?_, by trivial⟩
          rcases Nat.lt_or_eq_of_le (Nat.le_of_lt_succ hi) with h | rfl
          · exact HP.out i y h hy
          · rw [HXX.out] at hy; cases hy; exact hkl
        case measure => simp [intOf]; omega
      | false =>
        have hb1 : Op.bytesLess x.k.toList k.toList = false := hkl
        have hpos : posE (xs.map LE.ent) k = j := posE_of (by rw [List.length_map]; exact hj) (fun i e hi he => by
          rw [List.getElem?_map] at he
          cases hy : xs[i]? with
          | none => rw [hy] at he; cases he
          | some y => rw [hy] at he; cases he; exact HP.out i y hi hy) (fun e he => by
          rw [List.getElem?_map, HXX.out] at he; cases he; exact hkl)
        have HPOS := Lib.hid hpos
        clear hpos
        go_wp2_with fail
        go_quiet (fail)
        go_wp2_with fail
        refine bodyPost_ret (v := .tuple #[.int .i64 j, .bool (x.k.toList == k.toList)]) (by simp [results, Tryz.results50, go_sem]) rfl ?_
        rw [HPOS.out, List.getElem?_map, HXX.out]
        refine ⟨?_, _, rfl⟩
        rw [beq_toList]
        simp [LE.ent]
    · have g1 : ¬ (j : Int) < (xs.length : Int) := by omega
      obtain rfl : j = xs.length := by omega
      have hpos : posE (xs.map LE.ent) k = xs.length := posE_of (by rw [List.length_map]; exact Nat.le_refl _) (fun i e hi he => by
        rw [List.getElem?_map] at he
        cases hy : xs[i]? with
        | none => rw [hy] at he; cases he
        | some y => rw [hy] at he; cases he; exact HP.out i y hi hy) (fun e he => by
        rw [List.getElem?_map, List.getElem?_eq_none (Nat.le_refl _)] at he; cases he)
      have HPOS := Lib.hid hpos
      clear hpos
      go_wp2_with fail
      refine bodyPost_ret (v := .tuple #[.int .i64 xs.length, .bool false]) (by simp [results, Tryz.results50, go_sem]) rfl ?_
      rw [HPOS.out]
      exact ⟨by simp, 0, rfl⟩
section
variable {P : Program} (w : World)
theorem step_append_x {ops : Array Oper} {o : Oper} {a : Act} {K : Act → World → Prop} {Q : Exit → Act → World → Prop} {E : Prop} (hgd : o.guard = none) (s' x : Operand) (t : TypeId)
    (ho : o.op = .call { callee := .builtin .append, args := #[s', x], argTypes := #[t, t] })
    (base : Nat) (e : TypeId) (i : TypeInfo) (z : Value) (size bytes : Nat) (ht : P.underlying t = some (.slice e)) (hi : P.info? e = some i) (hz : i.zero = some z)
    (hsize : i.size = size) (hby : i.bytes = bytes) (hzs : z.cells.size = size) (hsz : 0 < size)
    (s : Sl) (n : Nat) (xs : List Value) (hs : a.eval s' = .slice s.a n s.c) (hown : w.ownsRow base e size (.slice s.a n s.c) n xs)
    (F : Nat → Prop) (sx : Sl) (m : Nat) (news : List Value) (hx : a.eval x = .slice sx.a m sx.c) (hsrc : Rd w F size sx m news) (h1 : ∀ u ∈ news, u.oneCell' = true)
    (h63 : n + m ≤ maxLen) (hbytes : (n + m) * bytes ≤ 140737488355328) (hbase : base ≤ w.heap.size)
    (h : ∀ (s' : Sl) (w' : World), w'.ownsRow base e size (.slice s'.a (n + m) s'.c) (n + m) (xs ++ news) → Wr w w' s.row → (s'.a = s.a ∨ s'.a = some ⟨w.heap.size, 0, none⟩ ∧ Wr w w' none) → K (a.put o.dst (.slice s'.a (n + m) s'.c)) w') :
    if Region.wanted o (yielded ops a.tmps) = true then Oper.wp P o a w K Q else E := by
  have hw : Region.wanted o (yielded ops a.tmps) = true := by simp [Region.wanted, hgd]
  rw [if_pos hw]
  exact wp_append_x w s' x t ho base e i z size bytes ht hi hz hsize hby hzs hsz s n xs hs hown F sx m news hx hsrc h1 h63 hbytes hbase h
theorem Rd.block {w : World} {g : Nat} {t : TypeId} {cs : List Value} {size n : Nat} (hb : Blk w g t cs.toArray) (hm : n ≤ maxLen) (hl : cs.length = n * size) : Rd w (fun b => b = g) size ⟨some ⟨g, 0, none⟩, n⟩ n cs :=
  ⟨g, 0, .some _ _ _ _ (Nat.le_refl _) hm rfl, hl, fun j u hj => by rw [Nat.zero_add, hb.cell]; simpa using hj⟩
end
def Put7Post (H : Nat → Prop) (M : Nat) (es : List Ent) (w : World) (e : Ending) (w' : World) : Prop :=
  (∃ r, e = .returned r) ∧ MapAt H w' M es ∧ St (fun b => b = M) w w'
theorem Wr.cell0 {w w' w'' : World} {row : Option Nat} (h : Wr w' w'' row) (hx : Ext w w') {M : Nat} {o : Nat} (hn : row ≠ some M) (hl : M < w.heap.size) : w''.cell? ⟨M, o, none⟩ = w.cell? ⟨M, o, none⟩ ∧ M < w''.heap.size :=
  ⟨((h.agree (F := fun b => b = M) (fun i hi => by subst hi; exact Nat.lt_of_lt_of_le hl hx.size) (fun k hk e => hn (e ▸ hk))).cell rfl).trans (hx.cell hl), Nat.lt_of_lt_of_le hl (Nat.le_trans hx.size h.grown.size)⟩
def put7L (xs : List LE) (p q : Nat) (x : LE) : List LE := (xs.take p ++ [x]) ++ xs.drop q
theorem put7L_es {xs : List LE} {k : ByteArray} (hs : Sorted (xs.map LE.ent)) (x : LE) (hx : x.k = k) {p q : Nat} (hp : posE (xs.map LE.ent) k = p) (hq : q = if (((xs.map LE.ent)[p]?).map Prod.fst = some k) then p + 1 else p) : (put7L xs p q x).map LE.ent = insE (xs.map LE.ent) k x.v := by
  rw [insE_pos hs, hp, put7L]
  subst hx hq
  simp only [List.map_append, List.map_take, List.map_drop, List.map_cons, List.map_nil, List.append_assoc, List.singleton_append]
  congr 2
  split <;> rfl
theorem put7_end {H : Nat → Prop} {w w3 : World} {M : Nat} {s s3 : Sl} {xs : List LE} {p q : Nat} {x : LE} {es : List Ent} (hm : H M) (hH : ∀ b, H b → b < w.heap.size) (hb : Blk w M 50 #[.slice s.a xs.length s.c]) (hs : ES w (NH H w) s xs) (hv : RV w (NH H w) x.v x.sl x.so) (hk : x.k.size ≤ maxLen)
    (hx : Ext w w3) (hown : w3.ownsRow w.heap.size 64 7 (.slice s3.a (put7L xs p q x).length s3.c) (put7L xs p q x).length (flatE (put7L xs p q x))) (hf : (put7L xs p q x).length * 104 ≤ 140737488355328) (he : (put7L xs p q x).map LE.ent = es) :
    MapAt H (w3.setCell ⟨M, 0, none⟩ (.slice s3.a (put7L xs p q x).length s3.c)) M es ∧ St (fun b => b = M) w (w3.setCell ⟨M, 0, none⟩ (.slice s3.a (put7L xs p q x).length s3.c)) := by
  have hMw := hb.lt
  have hst : St (fun b => b = M) w (w3.setCell ⟨M, 0, none⟩ (.slice s3.a (put7L xs p q x).length s3.c)) := (hx.st (fun b => b = M)).set (p := ⟨M, 0, none⟩) (.inr rfl) _
  have hag : Agree (NH H w) w (w3.setCell ⟨M, 0, none⟩ (.slice s3.a (put7L xs p q x).length s3.c)) := hst.agree.mono fun i hi => ⟨hi.1, fun e => hi.2 (e ▸ hm)⟩
  have hup : ∀ i, NH H w i → NH H (w3.setCell ⟨M, 0, none⟩ (.slice s3.a (put7L xs p q x).length s3.c)) i := fun i hi => ⟨Nat.lt_of_lt_of_le hi.1 hst.size, hi.2⟩
  have hag3 : Agree (In w.heap.size w3.heap.size) w3 (w3.setCell ⟨M, 0, none⟩ (.slice s3.a (put7L xs p q x).length s3.c)) := Agree.setCell w3 ⟨M, 0, none⟩ _ (fun h => by have h1 : w.heap.size ≤ M := h.1; omega)
  refine ⟨⟨hm, s3, put7L xs p q x, ?_, ⟨?_, ?_, hf⟩, he⟩, hst⟩
  · exact (hb.ext hx).set_ 0 _
  · exact ((Rd.of_own hown).agree hag3).mono fun i hi => ⟨by rw [World.size_setCell]; exact hi.2, fun h => by have := hH i h; have := hi.1; omega⟩
  · intro y hy
    have hy : y ∈ (xs.take p ++ [x]) ++ xs.drop q := hy
    have hor : y ∈ xs ∨ y = x := by
      rcases List.mem_append.1 hy with hy | hy
      · rcases List.mem_append.1 hy with hy | hy
        · exact .inl (List.mem_of_mem_take hy)
        · exact .inr (List.mem_singleton.1 hy)
      · exact .inl (List.mem_of_mem_drop hy)
    rcases hor with hy | rfl
    · exact ⟨((hs.vals y hy).1.agree hag).mono hup, (hs.vals y hy).2⟩
    · exact ⟨(hv.agree hag).mono hup, hk⟩
section
variable {P : Program} {w : World}
theorem wpList_append_0 {ops : Array Oper} {rest : List Oper} {o : Oper} {a : Act} {Q : Exit → Act → World → Prop} (hgd : o.guard = none) (s' x : Operand) (t : TypeId)
    (ho : o.op = .call { callee := .builtin .append, args := #[s', x], argTypes := #[t, t] })
    (base : Nat) (e : TypeId) (i : TypeInfo) (z : Value) (size bytes : Nat) (ht : P.underlying t = some (.slice e)) (hi : P.info? e = some i) (hz : i.zero = some z)
    (hsize : i.size = size) (hby : i.bytes = bytes) (hzs : z.cells.size = size) (hsz : 0 < size) (hs : a.eval s' = .slice none 0 0)
    (F : Nat → Prop) (sx : Sl) (m : Nat) (news : List Value) (hx : a.eval x = .slice sx.a m sx.c) (hsrc : Rd w F size sx m news) (h1 : ∀ u ∈ news, u.oneCell' = true)
    (h63 : m ≤ maxLen) (hbytes : m * bytes ≤ 140737488355328) (hbase : base ≤ w.heap.size)
    (h : ∀ (s' : Sl) (w' : World), w'.ownsRow base e size (.slice s'.a m s'.c) m news → Ext w w' → wpList P ops Q rest (a.put o.dst (.slice s'.a m s'.c)) w') : wpList P ops Q (o :: rest) a w :=
  wpList_append_x w hgd s' x t ho base e i z size bytes ht hi hz hsize hby hzs hsz Sl.none 0 [] hs (World.ownsRow_nil _ _ _ _) F sx m news hx hsrc h1 (by omega) (by rw [Nat.zero_add]; exact hbytes) hbase fun s2 w2 h2 h3 _ => by
    rw [Nat.zero_add, List.nil_append] at h2
    rw [Nat.zero_add]
    exact h s2 w2 h2 ((Ext.refl w).wr h3 (fun i hi => by cases hi))
end
theorem put7_any {H : Nat → Prop} {w : World} {M : Nat} {es : List Ent} (h : MapAt H w M es) (hH : ∀ b, H b → b < w.heap.size) (hso : Sorted es) (hc : es.length ≤ 1000000) {k : ByteArray} (hk : k.size ≤ maxLen) {v : Val} {sl so : Sl} (hv : RV w (NH H w) v sl so) :
    Calls Tryz.prog 23 #[.pointer (some ⟨M, 0, none⟩), .string k, aggV v sl so] w (Put7Post H M (insE es k v) w) := by
  obtain ⟨i0, hi, hz0, hz1, hz2⟩ := info_parts Tryz.infoEntry
  have hx1 : Ext w (w.alloc (.cells #[.int .i64 v.kind, .bool v.b, .int .i64 v.i, .string v.t, .slice sl.a v.l.length sl.c, .slice so.a v.ok.length so.c] 34)) := (Ext.refl w).alloc _ _
  have hb5 := Blk.new w 34 #[.int .i64 v.kind, .bool v.b, .int .i64 v.i, .string v.t, .slice sl.a v.l.length sl.c, .slice so.a v.ok.length so.c]
  have hat := at07 (h.ext hx1) k
  have hle := posE_le es k
  obtain ⟨hm, s, xs, hb, hs, hxs⟩ := h
  obtain ⟨p, hp⟩ : ∃ p, posE es k = p := ⟨_, rfl⟩
  obtain ⟨f, hf⟩ : ∃ f, decide ((es[p]?).map Prod.fst = some k) = f := ⟨_, rfl⟩
  rw [hp, hf] at hat
  have hlen : xs.length = es.length := by rw [← hxs, List.length_map]
  obtain ⟨q, hq⟩ : ∃ q, (if f = true then p + 1 else p) = q := ⟨_, rfl⟩
  have hqe : q = if ((es[p]?).map Prod.fst = some k) then p + 1 else p := by
    rw [← hq, ← hf]; simp only [decide_eq_true_eq]
  have hql : q ≤ xs.length := by
    rw [hqe]
    split
    · rename_i he
      have : p < es.length := by
        rcases Nat.lt_or_ge p es.length with h | h
        · exact h
        · rw [List.getElem?_eq_none h] at he; cases he
      omega
    · omega
  have hpl : p ≤ xs.length := by omega
  have hins : ∀ x : LE, x.k = k → x.v = v → (put7L xs p q x).map LE.ent = insE es k v := fun x h1 h2 => by
    have := put7L_es (xs := xs) (k := k) (by rw [hxs]; exact hso) x h1 (p := p) (q := q) (by rw [hxs]; exact hp) (by rw [hxs]; exact hqe)
    rw [this, hxs, h2]
  have hput : ∀ x : LE, (put7L xs p q x).length = p + 1 + (xs.length - q) := fun x => by
    simp only [put7L, List.length_append, List.length_take, List.length_drop, List.length_cons, List.length_nil]; omega
  obtain ⟨x, hxk, hxv, hxl, hxo⟩ : ∃ x : LE, x.k = k ∧ x.v = v ∧ x.sl = sl ∧ x.so = so := ⟨⟨k, v, sl, so⟩, rfl, rfl, rfl, rfl⟩
  have he := hins x hxk hxv
  have hend := fun (w3 : World) (s3 : Sl) => put7_end (w3 := w3) (s3 := s3) (p := p) (q := q) (x := x) (es := insE es k v) hm hH hb hs (by rw [hxv, hxl, hxo]; exact hv) (by rw [hxk]; exact hk)
  have hrd := fun (W : World) (hW : Ext w W) => (hs.mono (G := Lt w.heap.size) fun i hi => hi.1).agree (hW.agree fun _ h => h)
  have h0 : w.cell? ⟨M, 0, none⟩ = some (.slice s.a xs.length s.c) := hb.cell 0
  have lM := hb.lt
  have hfz := hb.frozen 0
  have HEND := Lib.hid hend
  have HRD := Lib.hid hrd
  have HE := Lib.hid he
  have HPUT := Lib.hid (hput x)
  have HAT := Lib.hid hat
  have HX1 := Lib.hid hx1
  have HQ := Lib.hid hq
  have hl1 : xs.length ≤ 1000000 := by omega
  have hcs : LE.cells x = [.string k, .int .i64 v.kind, .bool v.b, .int .i64 v.i, .string v.t, .slice sl.a v.l.length sl.c, .slice so.a v.ok.length so.c] := by
    rw [LE.cells, hxk, hxv, hxl, hxo]
  have HCS := Lib.hid hcs
  have hrd1 : ∀ W : World, Rd (W.alloc (.cells #[.string k, .int .i64 v.kind, .bool v.b, .int .i64 v.i, .string v.t, .slice sl.a v.l.length sl.c, .slice so.a v.ok.length so.c] 64)) (fun b => b = W.heap.size) 7 ⟨some ⟨W.heap.size, 0, none⟩, 1⟩ 1 [.string k, .int .i64 v.kind, .bool v.b, .int .i64 v.i, .string v.t, .slice sl.a v.l.length sl.c, .slice so.a v.ok.length so.c] := fun W => Rd.block (Blk.new W 64 #[.string k, .int .i64 v.kind, .bool v.b, .int .i64 v.i, .string v.t, .slice sl.a v.l.length sl.c, .slice so.a v.ok.length so.c]) (by decide) rfl
  have hone1 : ∀ u ∈ [Value.string k, .int .i64 v.kind, .bool v.b, .int .i64 v.i, .string v.t, .slice sl.a v.l.length sl.c, .slice so.a v.ok.length so.c], u.oneCell' = true := by rw [← hcs]; exact LE.one x
  have HRD1 := Lib.hid hrd1
  have HONE1 := Lib.hid hone1
  clear hrd1 hone1
  have hsp := hs.rd
  obtain ⟨gs, os, hsa, -, -⟩ := hsp
  clear hend hrd he hins hput hat hx1 hq hqe hf hxs hlen hs hb hcs hv
  generalize hn : xs.length = n at hsa
  cases hsa with
  | nil =>
    obtain rfl : p = 0 := by omega
    obtain rfl : xs = [] := List.eq_nil_of_length_eq_zero hn
    cases f with
    | true =>
      exfalso
      have h1 : 0 + 1 = q := by have := HQ.out; simpa using this
      simp at hql; omega
    | false =>
      obtain rfl : 0 = q := by have := HQ.out; simpa using this
      go_enter Tryz.func23, Tryz.ntmps23
      go_wp2_with fail
      refine HAT.out.mono ?_
      rintro e w2 ⟨rfl, nq, rfl⟩
      have hx2 := HX1.out.drewN nq
      replace h0 := (hx2.cell lM).trans h0
      have hb5' := hb5.ext ((Ext.refl _).drewN nq)
      obtain ⟨c0, c1, c2, c3, c4, c5⟩ := hb5'.c6
      have l5 := hb5'.lt
      have lMW : M < (World.drewN (w.alloc (.cells #[.int .i64 v.kind, .bool v.b, .int .i64 v.i, .string v.t, .slice sl.a v.l.length sl.c, .slice so.a v.ok.length so.c] 34)) nq).heap.size := Nat.lt_of_lt_of_le lM hx2.size
      generalize World.drewN _ nq = W2 at *
      have hw2 := hx2.size
      have hrp : Rd W2 (Lt w.heap.size) 7 Sl.none 0 (flatE (([] : List LE).take 0)) := by have := ((HRD.out W2 hx2).take hpl).rd; rwa [List.length_take, Nat.min_eq_left hpl] at this
      have HRP := Lib.hid hrp
      have HX2 := Lib.hid hx2
      have h63a : 0 ≤ maxLen := by unfold maxLen; omega
      have hbya : 0 * 104 ≤ 140737488355328 := by omega
      have h63b : 0 + 1 ≤ maxLen := by unfold maxLen; omega
      have hbyb : (0 + 1) * 104 ≤ 140737488355328 := by omega
      have hrq : ∀ W, Ext w W → Rd W (Lt w.heap.size) 7 Sl.none 0 [] := fun W hW => Rd.nil _ _ _
      have HRQ := Lib.hid hrq
      have h63c : 0 + 1 + 0 ≤ maxLen := by unfold maxLen; omega
      have hbyc : (0 + 1 + 0) * 104 ≤ 140737488355328 := by omega
      have hqi : ((0 : Nat) : Int) ≤ (([] : List LE).length : Int) := by omega
      have hpi : (0 : Int) ≤ (([] : List LE).length : Int) := by omega
      clear hrp hx2 HAT hb5 hb5' HX1 hrq
      go_wp2_with (first
        | (at_builtin; refine wpList_append_0 rfl (.tmp 15) (.tmp 21) 48 rfl w.heap.size 64 i0 _ 7 104 Tryz.underlying48 hi hz0 hz1 hz2 rfl (by decide) rfl (Lt w.heap.size) Sl.none 0 (flatE (([] : List LE).take 0)) rfl HRP.out (flatE_one _) h63a hbya hw2 ?_; intro s1 w3 hown1 hx3; have c0 := (hx3.cell l5).trans c0; have c1 := (hx3.cell l5).trans c1; have c2 := (hx3.cell l5).trans c2; have c3 := (hx3.cell l5).trans c3; have c4 := (hx3.cell l5).trans c4; have c5 := (hx3.cell l5).trans c5; have h0 := (hx3.cell lMW).trans h0; have l5 := Nat.lt_of_lt_of_le l5 hx3.size; have lMW := Nat.lt_of_lt_of_le lMW hx3.size; have HO1 := Lib.hid hown1; have HX3 := Lib.hid (HX2.out.trans hx3); have hw3 := HX3.out.size; have HO1A := Lib.hid (own_agree (w' := w3.alloc (.cells #[.string k, .int .i64 v.kind, .bool v.b, .int .i64 v.i, .string v.t, .slice sl.a v.l.length sl.c, .slice so.a v.ok.length so.c] 64)) (s := s1) hown1 (F := Lt w3.heap.size) (((Ext.refl w3).alloc _ _).agree fun _ h => h) fun b hb => (own_row (s := s1) hown1 hb).2); clear hown1 hx3)
        | (at_builtin; refine wpList_append_x _ rfl (.tmp 23) (.tmp 27) 48 rfl w.heap.size 64 i0 _ 7 104 Tryz.underlying48 hi hz0 hz1 hz2 rfl (by decide) s1 0 (flatE (([] : List LE).take 0)) rfl HO1A.out (fun b => b = w3.heap.size) ⟨some ⟨w3.heap.size, 0, none⟩, 1⟩ 1 [.string k, .int .i64 v.kind, .bool v.b, .int .i64 v.i, .string v.t, .slice sl.a v.l.length sl.c, .slice so.a v.ok.length so.c] rfl (HRD1.out w3) HONE1.out h63b hbyb (Nat.le_trans hw3 ((Ext.refl w3).alloc _ _).size) ?_; intro s2 w4 hown2 hwr2 hs2; have hx4 := ((Ext.refl w3).alloc #[.string k, .int .i64 v.kind, .bool v.b, .int .i64 v.i, .string v.t, .slice sl.a v.l.length sl.c, .slice so.a v.ok.length so.c] 64); have hn4 := hwr2.cell0 (o := 0) hx4 (fun e => by have := (own_row (s := s1) HO1.out e).1; omega) lMW; have h0 := hn4.1.trans h0; have lMW := hn4.2; have HO2 := Lib.hid hown2; have HX4 := Lib.hid ((HX3.out.trans hx4).wr hwr2 (fun i hi => (own_row (s := s1) HO1.out hi).1)); have hw4 := HX4.out.size; clear hown2 hwr2 hs2 hx4 hn4)
        | (at_builtin; refine wpList_append_x _ rfl (.tmp 33) (.tmp 39) 48 rfl w.heap.size 64 i0 _ 7 104 Tryz.underlying48 hi hz0 hz1 hz2 rfl (by decide) s2 (0 + 1) (flatE (([] : List LE).take 0) ++ [.string k, .int .i64 v.kind, .bool v.b, .int .i64 v.i, .string v.t, .slice sl.a v.l.length sl.c, .slice so.a v.ok.length so.c]) rfl HO2.out (Lt w.heap.size) Sl.none 0 [] rfl (HRQ.out w4 HX4.out) (by simp) h63c hbyc hw4 ?_; intro s3 w5 hown3 hwr3 hs3; have hn5 := hwr3.cell0 (o := 0) (Ext.refl w4) (fun e => by have := (own_row (s := s2) HO2.out e).1; omega) lMW; have h0 := hn5.1.trans h0; have lMW := hn5.2; have f0 := (HX4.out.wr hwr3 (fun i hi => (own_row (s := s2) HO2.out hi).1)).frozen (o := 0) lM; rw [hfz] at f0; have HO3 := Lib.hid hown3; have HX5 := Lib.hid (HX4.out.wr hwr3 (fun i hi => (own_row (s := s2) HO2.out hi).1)); clear hown3 hwr3 hs3 hn5))
      have hfl : flatE (put7L ([] : List LE) 0 (0) x) = (flatE (([] : List LE).take 0) ++ [.string k, .int .i64 v.kind, .bool v.b, .int .i64 v.i, .string v.t, .slice sl.a v.l.length sl.c, .slice so.a v.ok.length so.c]) ++ flatE (([] : List LE).drop (0)) := by rw [put7L, flatE_app, flatE_app, show flatE [x] = LE.cells x from by simp [flatE], HCS.out]
      have hpu : (put7L ([] : List LE) 0 (0) x).length = 0 + 1 + (([] : List LE).length - (0)) := HPUT.out
      have hzz : ([] : List LE).length - (0) = 0 := by omega
      have hdd : ([] : List LE).drop (0) = [] := List.drop_eq_nil_iff.2 (by omega)
      rw [hzz] at hpu
      rw [hdd] at hfl
      have hfin := HEND.out w5 s3 HX5.out (by rw [hpu, hfl]; exact HO3.out) (by rw [hpu]; omega) HE.out
      rw [hpu] at hfin
      go_end0
      exact ⟨⟨_, rfl⟩, hfin⟩
  | zero ad =>
    obtain rfl : p = 0 := by omega
    obtain rfl : xs = [] := List.eq_nil_of_length_eq_zero hn
    cases f with
    | true =>
      exfalso
      have h1 : 0 + 1 = q := by have := HQ.out; simpa using this
      simp at hql; omega
    | false =>
      obtain rfl : 0 = q := by have := HQ.out; simpa using this
      go_enter Tryz.func23, Tryz.ntmps23
      go_wp2_with fail
      refine HAT.out.mono ?_
      rintro e w2 ⟨rfl, nq, rfl⟩
      have hx2 := HX1.out.drewN nq
      replace h0 := (hx2.cell lM).trans h0
      have hb5' := hb5.ext ((Ext.refl _).drewN nq)
      obtain ⟨c0, c1, c2, c3, c4, c5⟩ := hb5'.c6
      have l5 := hb5'.lt
      have lMW : M < (World.drewN (w.alloc (.cells #[.int .i64 v.kind, .bool v.b, .int .i64 v.i, .string v.t, .slice sl.a v.l.length sl.c, .slice so.a v.ok.length so.c] 34)) nq).heap.size := Nat.lt_of_lt_of_le lM hx2.size
      generalize World.drewN _ nq = W2 at *
      have hw2 := hx2.size
      have hrp : Rd W2 (Lt w.heap.size) 7 ⟨some ad, 0⟩ 0 (flatE (([] : List LE).take 0)) := by have := ((HRD.out W2 hx2).take hpl).rd; rwa [List.length_take, Nat.min_eq_left hpl] at this
      have HRP := Lib.hid hrp
      have HX2 := Lib.hid hx2
      have h63a : 0 ≤ maxLen := by unfold maxLen; omega
      have hbya : 0 * 104 ≤ 140737488355328 := by omega
      have h63b : 0 + 1 ≤ maxLen := by unfold maxLen; omega
      have hbyb : (0 + 1) * 104 ≤ 140737488355328 := by omega
      have hrq : ∀ W, Ext w W → Rd W (Lt w.heap.size) 7 ⟨some ad, 0⟩ 0 [] := fun W hW => ⟨0, 0, .zero _ _ _, rfl, fun j u hj => by simp at hj⟩
      have HRQ := Lib.hid hrq
      have h63c : 0 + 1 + 0 ≤ maxLen := by unfold maxLen; omega
      have hbyc : (0 + 1 + 0) * 104 ≤ 140737488355328 := by omega
      have hqi : ((0 : Nat) : Int) ≤ (([] : List LE).length : Int) := by omega
      have hpi : (0 : Int) ≤ (([] : List LE).length : Int) := by omega
      clear hrp hx2 HAT hb5 hb5' HX1 hrq
      go_wp2_with (first
        | (at_builtin; refine wpList_append_0 rfl (.tmp 15) (.tmp 21) 48 rfl w.heap.size 64 i0 _ 7 104 Tryz.underlying48 hi hz0 hz1 hz2 rfl (by decide) rfl (Lt w.heap.size) ⟨some ad, 0⟩ 0 (flatE (([] : List LE).take 0)) rfl HRP.out (flatE_one _) h63a hbya hw2 ?_; intro s1 w3 hown1 hx3; have c0 := (hx3.cell l5).trans c0; have c1 := (hx3.cell l5).trans c1; have c2 := (hx3.cell l5).trans c2; have c3 := (hx3.cell l5).trans c3; have c4 := (hx3.cell l5).trans c4; have c5 := (hx3.cell l5).trans c5; have h0 := (hx3.cell lMW).trans h0; have l5 := Nat.lt_of_lt_of_le l5 hx3.size; have lMW := Nat.lt_of_lt_of_le lMW hx3.size; have HO1 := Lib.hid hown1; have HX3 := Lib.hid (HX2.out.trans hx3); have hw3 := HX3.out.size; have HO1A := Lib.hid (own_agree (w' := w3.alloc (.cells #[.string k, .int .i64 v.kind, .bool v.b, .int .i64 v.i, .string v.t, .slice sl.a v.l.length sl.c, .slice so.a v.ok.length so.c] 64)) (s := s1) hown1 (F := Lt w3.heap.size) (((Ext.refl w3).alloc _ _).agree fun _ h => h) fun b hb => (own_row (s := s1) hown1 hb).2); clear hown1 hx3)
        | (at_builtin; refine wpList_append_x _ rfl (.tmp 23) (.tmp 27) 48 rfl w.heap.size 64 i0 _ 7 104 Tryz.underlying48 hi hz0 hz1 hz2 rfl (by decide) s1 0 (flatE (([] : List LE).take 0)) rfl HO1A.out (fun b => b = w3.heap.size) ⟨some ⟨w3.heap.size, 0, none⟩, 1⟩ 1 [.string k, .int .i64 v.kind, .bool v.b, .int .i64 v.i, .string v.t, .slice sl.a v.l.length sl.c, .slice so.a v.ok.length so.c] rfl (HRD1.out w3) HONE1.out h63b hbyb (Nat.le_trans hw3 ((Ext.refl w3).alloc _ _).size) ?_; intro s2 w4 hown2 hwr2 hs2; have hx4 := ((Ext.refl w3).alloc #[.string k, .int .i64 v.kind, .bool v.b, .int .i64 v.i, .string v.t, .slice sl.a v.l.length sl.c, .slice so.a v.ok.length so.c] 64); have hn4 := hwr2.cell0 (o := 0) hx4 (fun e => by have := (own_row (s := s1) HO1.out e).1; omega) lMW; have h0 := hn4.1.trans h0; have lMW := hn4.2; have HO2 := Lib.hid hown2; have HX4 := Lib.hid ((HX3.out.trans hx4).wr hwr2 (fun i hi => (own_row (s := s1) HO1.out hi).1)); have hw4 := HX4.out.size; clear hown2 hwr2 hs2 hx4 hn4)
        | (at_builtin; refine wpList_append_x _ rfl (.tmp 33) (.tmp 39) 48 rfl w.heap.size 64 i0 _ 7 104 Tryz.underlying48 hi hz0 hz1 hz2 rfl (by decide) s2 (0 + 1) (flatE (([] : List LE).take 0) ++ [.string k, .int .i64 v.kind, .bool v.b, .int .i64 v.i, .string v.t, .slice sl.a v.l.length sl.c, .slice so.a v.ok.length so.c]) rfl HO2.out (Lt w.heap.size) ⟨some ad, 0⟩ 0 [] rfl (HRQ.out w4 HX4.out) (by simp) h63c hbyc hw4 ?_; intro s3 w5 hown3 hwr3 hs3; have hn5 := hwr3.cell0 (o := 0) (Ext.refl w4) (fun e => by have := (own_row (s := s2) HO2.out e).1; omega) lMW; have h0 := hn5.1.trans h0; have lMW := hn5.2; have f0 := (HX4.out.wr hwr3 (fun i hi => (own_row (s := s2) HO2.out hi).1)).frozen (o := 0) lM; rw [hfz] at f0; have HO3 := Lib.hid hown3; have HX5 := Lib.hid (HX4.out.wr hwr3 (fun i hi => (own_row (s := s2) HO2.out hi).1)); clear hown3 hwr3 hs3 hn5))
      have hfl : flatE (put7L ([] : List LE) 0 (0) x) = (flatE (([] : List LE).take 0) ++ [.string k, .int .i64 v.kind, .bool v.b, .int .i64 v.i, .string v.t, .slice sl.a v.l.length sl.c, .slice so.a v.ok.length so.c]) ++ flatE (([] : List LE).drop (0)) := by rw [put7L, flatE_app, flatE_app, show flatE [x] = LE.cells x from by simp [flatE], HCS.out]
      have hpu : (put7L ([] : List LE) 0 (0) x).length = 0 + 1 + (([] : List LE).length - (0)) := HPUT.out
      have hzz : ([] : List LE).length - (0) = 0 := by omega
      have hdd : ([] : List LE).drop (0) = [] := List.drop_eq_nil_iff.2 (by omega)
      rw [hzz] at hpu
      rw [hdd] at hfl
      have hfin := HEND.out w5 s3 HX5.out (by rw [hpu, hfl]; exact HO3.out) (by rw [hpu]; omega) HE.out
      rw [hpu] at hfin
      go_end0
      exact ⟨⟨_, rfl⟩, hfin⟩
  | some _ sc _ _ hsc hscm hsF =>
    subst hn
    cases f with
    | true =>
      obtain rfl : p + 1 = q := by have := HQ.out; simpa using this
      by_cases hcap : sc = p + 1
      · have hcap2 := hcap.symm
        subst hcap2
        go_enter Tryz.func23, Tryz.ntmps23
        go_wp2_with fail
        refine HAT.out.mono ?_
        rintro e w2 ⟨rfl, nq, rfl⟩
        have hx2 := HX1.out.drewN nq
        replace h0 := (hx2.cell lM).trans h0
        have hb5' := hb5.ext ((Ext.refl _).drewN nq)
        obtain ⟨c0, c1, c2, c3, c4, c5⟩ := hb5'.c6
        have l5 := hb5'.lt
        have lMW : M < (World.drewN (w.alloc (.cells #[.int .i64 v.kind, .bool v.b, .int .i64 v.i, .string v.t, .slice sl.a v.l.length sl.c, .slice so.a v.ok.length so.c] 34)) nq).heap.size := Nat.lt_of_lt_of_le lM hx2.size
        generalize World.drewN _ nq = W2 at *
        have hw2 := hx2.size
        have hrp : Rd W2 (Lt w.heap.size) 7 ⟨some ⟨gs, os, none⟩, p + 1⟩ p (flatE (xs.take p)) := by have := ((HRD.out W2 hx2).take hpl).rd; rwa [List.length_take, Nat.min_eq_left hpl] at this
        have HRP := Lib.hid hrp
        have HX2 := Lib.hid hx2
        have h63a : p ≤ maxLen := by unfold maxLen; omega
        have hbya : p * 104 ≤ 140737488355328 := by omega
        have h63b : p + 1 ≤ maxLen := by unfold maxLen; omega
        have hbyb : (p + 1) * 104 ≤ 140737488355328 := by omega
        have hrq : ∀ W, Ext w W → Rd W (Lt w.heap.size) 7 ⟨some ⟨gs, os, none⟩, 0⟩ 0 [] := fun W hW => ⟨gs, os, .some _ _ _ _ (Nat.zero_le _) (Nat.zero_le _) hsF.1, rfl, fun j u hj => by simp at hj⟩
        have HRQ := Lib.hid hrq
        have h63c : p + 1 + 0 ≤ maxLen := by unfold maxLen; omega
        have hbyc : (p + 1 + 0) * 104 ≤ 140737488355328 := by omega
        have hqi : ((p + 1 : Nat) : Int) ≤ (xs.length : Int) := by omega
        have hpi : (p : Int) ≤ (xs.length : Int) := by omega
        clear hrp hx2 HAT hb5 hb5' HX1 hrq
        go_wp2_with (first
          | (at_builtin; refine wpList_append_0 rfl (.tmp 15) (.tmp 21) 48 rfl w.heap.size 64 i0 _ 7 104 Tryz.underlying48 hi hz0 hz1 hz2 rfl (by decide) rfl (Lt w.heap.size) ⟨some ⟨gs, os, none⟩, p + 1⟩ p (flatE (xs.take p)) rfl HRP.out (flatE_one _) h63a hbya hw2 ?_; intro s1 w3 hown1 hx3; have c0 := (hx3.cell l5).trans c0; have c1 := (hx3.cell l5).trans c1; have c2 := (hx3.cell l5).trans c2; have c3 := (hx3.cell l5).trans c3; have c4 := (hx3.cell l5).trans c4; have c5 := (hx3.cell l5).trans c5; have h0 := (hx3.cell lMW).trans h0; have l5 := Nat.lt_of_lt_of_le l5 hx3.size; have lMW := Nat.lt_of_lt_of_le lMW hx3.size; have HO1 := Lib.hid hown1; have HX3 := Lib.hid (HX2.out.trans hx3); have hw3 := HX3.out.size; have HO1A := Lib.hid (own_agree (w' := w3.alloc (.cells #[.string k, .int .i64 v.kind, .bool v.b, .int .i64 v.i, .string v.t, .slice sl.a v.l.length sl.c, .slice so.a v.ok.length so.c] 64)) (s := s1) hown1 (F := Lt w3.heap.size) (((Ext.refl w3).alloc _ _).agree fun _ h => h) fun b hb => (own_row (s := s1) hown1 hb).2); clear hown1 hx3)
          | (at_builtin; refine wpList_append_x _ rfl (.tmp 23) (.tmp 27) 48 rfl w.heap.size 64 i0 _ 7 104 Tryz.underlying48 hi hz0 hz1 hz2 rfl (by decide) s1 p (flatE (xs.take p)) rfl HO1A.out (fun b => b = w3.heap.size) ⟨some ⟨w3.heap.size, 0, none⟩, 1⟩ 1 [.string k, .int .i64 v.kind, .bool v.b, .int .i64 v.i, .string v.t, .slice sl.a v.l.length sl.c, .slice so.a v.ok.length so.c] rfl (HRD1.out w3) HONE1.out h63b hbyb (Nat.le_trans hw3 ((Ext.refl w3).alloc _ _).size) ?_; intro s2 w4 hown2 hwr2 hs2; have hx4 := ((Ext.refl w3).alloc #[.string k, .int .i64 v.kind, .bool v.b, .int .i64 v.i, .string v.t, .slice sl.a v.l.length sl.c, .slice so.a v.ok.length so.c] 64); have hn4 := hwr2.cell0 (o := 0) hx4 (fun e => by have := (own_row (s := s1) HO1.out e).1; omega) lMW; have h0 := hn4.1.trans h0; have lMW := hn4.2; have HO2 := Lib.hid hown2; have HX4 := Lib.hid ((HX3.out.trans hx4).wr hwr2 (fun i hi => (own_row (s := s1) HO1.out hi).1)); have hw4 := HX4.out.size; clear hown2 hwr2 hs2 hx4 hn4)
          | (at_builtin; refine wpList_append_x _ rfl (.tmp 33) (.tmp 39) 48 rfl w.heap.size 64 i0 _ 7 104 Tryz.underlying48 hi hz0 hz1 hz2 rfl (by decide) s2 (p + 1) (flatE (xs.take p) ++ [.string k, .int .i64 v.kind, .bool v.b, .int .i64 v.i, .string v.t, .slice sl.a v.l.length sl.c, .slice so.a v.ok.length so.c]) rfl HO2.out (Lt w.heap.size) ⟨some ⟨gs, os, none⟩, 0⟩ 0 [] rfl (HRQ.out w4 HX4.out) (by simp) h63c hbyc hw4 ?_; intro s3 w5 hown3 hwr3 hs3; have hn5 := hwr3.cell0 (o := 0) (Ext.refl w4) (fun e => by have := (own_row (s := s2) HO2.out e).1; omega) lMW; have h0 := hn5.1.trans h0; have lMW := hn5.2; have f0 := (HX4.out.wr hwr3 (fun i hi => (own_row (s := s2) HO2.out hi).1)).frozen (o := 0) lM; rw [hfz] at f0; have HO3 := Lib.hid hown3; have HX5 := Lib.hid (HX4.out.wr hwr3 (fun i hi => (own_row (s := s2) HO2.out hi).1)); clear hown3 hwr3 hs3 hn5))
        have hfl : flatE (put7L xs p (p + 1) x) = (flatE (xs.take p) ++ [.string k, .int .i64 v.kind, .bool v.b, .int .i64 v.i, .string v.t, .slice sl.a v.l.length sl.c, .slice so.a v.ok.length so.c]) ++ flatE (xs.drop (p + 1)) := by rw [put7L, flatE_app, flatE_app, show flatE [x] = LE.cells x from by simp [flatE], HCS.out]
        have hpu : (put7L xs p (p + 1) x).length = p + 1 + (xs.length - (p + 1)) := HPUT.out
        have hzz : xs.length - (p + 1) = 0 := by omega
        have hdd : xs.drop (p + 1) = [] := List.drop_eq_nil_iff.2 (by omega)
        rw [hzz] at hpu
        rw [hdd] at hfl
        have hfin := HEND.out w5 s3 HX5.out (by rw [hpu, hfl]; exact HO3.out) (by rw [hpu]; omega) HE.out
        rw [hpu] at hfin
        go_end0
        exact ⟨⟨_, rfl⟩, hfin⟩
      · have hcap' : ¬ p + 1 = sc := fun e => hcap e.symm
        go_enter Tryz.func23, Tryz.ntmps23
        go_wp2_with fail
        refine HAT.out.mono ?_
        rintro e w2 ⟨rfl, nq, rfl⟩
        have hx2 := HX1.out.drewN nq
        replace h0 := (hx2.cell lM).trans h0
        have hb5' := hb5.ext ((Ext.refl _).drewN nq)
        obtain ⟨c0, c1, c2, c3, c4, c5⟩ := hb5'.c6
        have l5 := hb5'.lt
        have lMW : M < (World.drewN (w.alloc (.cells #[.int .i64 v.kind, .bool v.b, .int .i64 v.i, .string v.t, .slice sl.a v.l.length sl.c, .slice so.a v.ok.length so.c] 34)) nq).heap.size := Nat.lt_of_lt_of_le lM hx2.size
        generalize World.drewN _ nq = W2 at *
        have hw2 := hx2.size
        have hrp : Rd W2 (Lt w.heap.size) 7 ⟨some ⟨gs, os, none⟩, sc⟩ p (flatE (xs.take p)) := by have := ((HRD.out W2 hx2).take hpl).rd; rwa [List.length_take, Nat.min_eq_left hpl] at this
        have HRP := Lib.hid hrp
        have HX2 := Lib.hid hx2
        have h63a : p ≤ maxLen := by unfold maxLen; omega
        have hbya : p * 104 ≤ 140737488355328 := by omega
        have h63b : p + 1 ≤ maxLen := by unfold maxLen; omega
        have hbyb : (p + 1) * 104 ≤ 140737488355328 := by omega
        have hrq : ∀ W, Ext w W → Rd W (Lt w.heap.size) 7 ⟨some ⟨gs, os + (p + 1) * 7, none⟩, sc - (p + 1)⟩ (xs.length - (p + 1)) (flatE (xs.drop (p + 1))) := fun W hW => by have := ((HRD.out W hW).drop hql).rd; rwa [List.length_drop] at this
        have HRQ := Lib.hid hrq
        have h63c : p + 1 + (xs.length - (p + 1)) ≤ maxLen := by unfold maxLen; omega
        have hbyc : (p + 1 + (xs.length - (p + 1))) * 104 ≤ 140737488355328 := by omega
        have hqi : ((p + 1 : Nat) : Int) ≤ (xs.length : Int) := by omega
        have hpi : (p : Int) ≤ (xs.length : Int) := by omega
        clear hrp hx2 HAT hb5 hb5' HX1 hrq
        go_wp2_with (first
          | (at_builtin; refine wpList_append_0 rfl (.tmp 15) (.tmp 21) 48 rfl w.heap.size 64 i0 _ 7 104 Tryz.underlying48 hi hz0 hz1 hz2 rfl (by decide) rfl (Lt w.heap.size) ⟨some ⟨gs, os, none⟩, sc⟩ p (flatE (xs.take p)) rfl HRP.out (flatE_one _) h63a hbya hw2 ?_; intro s1 w3 hown1 hx3; have c0 := (hx3.cell l5).trans c0; have c1 := (hx3.cell l5).trans c1; have c2 := (hx3.cell l5).trans c2; have c3 := (hx3.cell l5).trans c3; have c4 := (hx3.cell l5).trans c4; have c5 := (hx3.cell l5).trans c5; have h0 := (hx3.cell lMW).trans h0; have l5 := Nat.lt_of_lt_of_le l5 hx3.size; have lMW := Nat.lt_of_lt_of_le lMW hx3.size; have HO1 := Lib.hid hown1; have HX3 := Lib.hid (HX2.out.trans hx3); have hw3 := HX3.out.size; have HO1A := Lib.hid (own_agree (w' := w3.alloc (.cells #[.string k, .int .i64 v.kind, .bool v.b, .int .i64 v.i, .string v.t, .slice sl.a v.l.length sl.c, .slice so.a v.ok.length so.c] 64)) (s := s1) hown1 (F := Lt w3.heap.size) (((Ext.refl w3).alloc _ _).agree fun _ h => h) fun b hb => (own_row (s := s1) hown1 hb).2); clear hown1 hx3)
          | (at_builtin; refine wpList_append_x _ rfl (.tmp 23) (.tmp 27) 48 rfl w.heap.size 64 i0 _ 7 104 Tryz.underlying48 hi hz0 hz1 hz2 rfl (by decide) s1 p (flatE (xs.take p)) rfl HO1A.out (fun b => b = w3.heap.size) ⟨some ⟨w3.heap.size, 0, none⟩, 1⟩ 1 [.string k, .int .i64 v.kind, .bool v.b, .int .i64 v.i, .string v.t, .slice sl.a v.l.length sl.c, .slice so.a v.ok.length so.c] rfl (HRD1.out w3) HONE1.out h63b hbyb (Nat.le_trans hw3 ((Ext.refl w3).alloc _ _).size) ?_; intro s2 w4 hown2 hwr2 hs2; have hx4 := ((Ext.refl w3).alloc #[.string k, .int .i64 v.kind, .bool v.b, .int .i64 v.i, .string v.t, .slice sl.a v.l.length sl.c, .slice so.a v.ok.length so.c] 64); have hn4 := hwr2.cell0 (o := 0) hx4 (fun e => by have := (own_row (s := s1) HO1.out e).1; omega) lMW; have h0 := hn4.1.trans h0; have lMW := hn4.2; have HO2 := Lib.hid hown2; have HX4 := Lib.hid ((HX3.out.trans hx4).wr hwr2 (fun i hi => (own_row (s := s1) HO1.out hi).1)); have hw4 := HX4.out.size; clear hown2 hwr2 hs2 hx4 hn4)
          | (at_builtin; refine wpList_append_x _ rfl (.tmp 33) (.tmp 39) 48 rfl w.heap.size 64 i0 _ 7 104 Tryz.underlying48 hi hz0 hz1 hz2 rfl (by decide) s2 (p + 1) (flatE (xs.take p) ++ [.string k, .int .i64 v.kind, .bool v.b, .int .i64 v.i, .string v.t, .slice sl.a v.l.length sl.c, .slice so.a v.ok.length so.c]) rfl HO2.out (Lt w.heap.size) ⟨some ⟨gs, os + (p + 1) * 7, none⟩, sc - (p + 1)⟩ (xs.length - (p + 1)) (flatE (xs.drop (p + 1))) rfl (HRQ.out w4 HX4.out) (flatE_one _) h63c hbyc hw4 ?_; intro s3 w5 hown3 hwr3 hs3; have hn5 := hwr3.cell0 (o := 0) (Ext.refl w4) (fun e => by have := (own_row (s := s2) HO2.out e).1; omega) lMW; have h0 := hn5.1.trans h0; have lMW := hn5.2; have f0 := (HX4.out.wr hwr3 (fun i hi => (own_row (s := s2) HO2.out hi).1)).frozen (o := 0) lM; rw [hfz] at f0; have HO3 := Lib.hid hown3; have HX5 := Lib.hid (HX4.out.wr hwr3 (fun i hi => (own_row (s := s2) HO2.out hi).1)); clear hown3 hwr3 hs3 hn5))
        have hfl : flatE (put7L xs p (p + 1) x) = (flatE (xs.take p) ++ [.string k, .int .i64 v.kind, .bool v.b, .int .i64 v.i, .string v.t, .slice sl.a v.l.length sl.c, .slice so.a v.ok.length so.c]) ++ flatE (xs.drop (p + 1)) := by rw [put7L, flatE_app, flatE_app, show flatE [x] = LE.cells x from by simp [flatE], HCS.out]
        have hpu : (put7L xs p (p + 1) x).length = p + 1 + (xs.length - (p + 1)) := HPUT.out
        have hfin := HEND.out w5 s3 HX5.out (by rw [hpu, hfl]; exact HO3.out) (by rw [hpu]; omega) HE.out
        rw [hpu, show p + 1 + (xs.length - (p + 1)) = xs.length from by omega] at hfin
        go_end0
        exact ⟨⟨_, rfl⟩, hfin⟩
    | false =>
      obtain rfl : p = q := by have := HQ.out; simpa using this
      by_cases hcap : sc = p
      · have hcap2 := hcap.symm
        subst hcap2
        go_enter Tryz.func23, Tryz.ntmps23
        go_wp2_with fail
        refine HAT.out.mono ?_
        rintro e w2 ⟨rfl, nq, rfl⟩
        have hx2 := HX1.out.drewN nq
        replace h0 := (hx2.cell lM).trans h0
        have hb5' := hb5.ext ((Ext.refl _).drewN nq)
        obtain ⟨c0, c1, c2, c3, c4, c5⟩ := hb5'.c6
        have l5 := hb5'.lt
        have lMW : M < (World.drewN (w.alloc (.cells #[.int .i64 v.kind, .bool v.b, .int .i64 v.i, .string v.t, .slice sl.a v.l.length sl.c, .slice so.a v.ok.length so.c] 34)) nq).heap.size := Nat.lt_of_lt_of_le lM hx2.size
        generalize World.drewN _ nq = W2 at *
        have hw2 := hx2.size
        have hrp : Rd W2 (Lt w.heap.size) 7 ⟨some ⟨gs, os, none⟩, p⟩ p (flatE (xs.take p)) := by have := ((HRD.out W2 hx2).take hpl).rd; rwa [List.length_take, Nat.min_eq_left hpl] at this
        have HRP := Lib.hid hrp
        have HX2 := Lib.hid hx2
        have h63a : p ≤ maxLen := by unfold maxLen; omega
        have hbya : p * 104 ≤ 140737488355328 := by omega
        have h63b : p + 1 ≤ maxLen := by unfold maxLen; omega
        have hbyb : (p + 1) * 104 ≤ 140737488355328 := by omega
        have hrq : ∀ W, Ext w W → Rd W (Lt w.heap.size) 7 ⟨some ⟨gs, os, none⟩, 0⟩ 0 [] := fun W hW => ⟨gs, os, .some _ _ _ _ (Nat.zero_le _) (Nat.zero_le _) hsF.1, rfl, fun j u hj => by simp at hj⟩
        have HRQ := Lib.hid hrq
        have h63c : p + 1 + 0 ≤ maxLen := by unfold maxLen; omega
        have hbyc : (p + 1 + 0) * 104 ≤ 140737488355328 := by omega
        have hqi : ((p : Nat) : Int) ≤ (xs.length : Int) := by omega
        have hpi : (p : Int) ≤ (xs.length : Int) := by omega
        clear hrp hx2 HAT hb5 hb5' HX1 hrq
        go_wp2_with (first
          | (at_builtin; refine wpList_append_0 rfl (.tmp 15) (.tmp 21) 48 rfl w.heap.size 64 i0 _ 7 104 Tryz.underlying48 hi hz0 hz1 hz2 rfl (by decide) rfl (Lt w.heap.size) ⟨some ⟨gs, os, none⟩, p⟩ p (flatE (xs.take p)) rfl HRP.out (flatE_one _) h63a hbya hw2 ?_; intro s1 w3 hown1 hx3; have c0 := (hx3.cell l5).trans c0; have c1 := (hx3.cell l5).trans c1; have c2 := (hx3.cell l5).trans c2; have c3 := (hx3.cell l5).trans c3; have c4 := (hx3.cell l5).trans c4; have c5 := (hx3.cell l5).trans c5; have h0 := (hx3.cell lMW).trans h0; have l5 := Nat.lt_of_lt_of_le l5 hx3.size; have lMW := Nat.lt_of_lt_of_le lMW hx3.size; have HO1 := Lib.hid hown1; have HX3 := Lib.hid (HX2.out.trans hx3); have hw3 := HX3.out.size; have HO1A := Lib.hid (own_agree (w' := w3.alloc (.cells #[.string k, .int .i64 v.kind, .bool v.b, .int .i64 v.i, .string v.t, .slice sl.a v.l.length sl.c, .slice so.a v.ok.length so.c] 64)) (s := s1) hown1 (F := Lt w3.heap.size) (((Ext.refl w3).alloc _ _).agree fun _ h => h) fun b hb => (own_row (s := s1) hown1 hb).2); clear hown1 hx3)
          | (at_builtin; refine wpList_append_x _ rfl (.tmp 23) (.tmp 27) 48 rfl w.heap.size 64 i0 _ 7 104 Tryz.underlying48 hi hz0 hz1 hz2 rfl (by decide) s1 p (flatE (xs.take p)) rfl HO1A.out (fun b => b = w3.heap.size) ⟨some ⟨w3.heap.size, 0, none⟩, 1⟩ 1 [.string k, .int .i64 v.kind, .bool v.b, .int .i64 v.i, .string v.t, .slice sl.a v.l.length sl.c, .slice so.a v.ok.length so.c] rfl (HRD1.out w3) HONE1.out h63b hbyb (Nat.le_trans hw3 ((Ext.refl w3).alloc _ _).size) ?_; intro s2 w4 hown2 hwr2 hs2; have hx4 := ((Ext.refl w3).alloc #[.string k, .int .i64 v.kind, .bool v.b, .int .i64 v.i, .string v.t, .slice sl.a v.l.length sl.c, .slice so.a v.ok.length so.c] 64); have hn4 := hwr2.cell0 (o := 0) hx4 (fun e => by have := (own_row (s := s1) HO1.out e).1; omega) lMW; have h0 := hn4.1.trans h0; have lMW := hn4.2; have HO2 := Lib.hid hown2; have HX4 := Lib.hid ((HX3.out.trans hx4).wr hwr2 (fun i hi => (own_row (s := s1) HO1.out hi).1)); have hw4 := HX4.out.size; clear hown2 hwr2 hs2 hx4 hn4)
          | (at_builtin; refine wpList_append_x _ rfl (.tmp 33) (.tmp 39) 48 rfl w.heap.size 64 i0 _ 7 104 Tryz.underlying48 hi hz0 hz1 hz2 rfl (by decide) s2 (p + 1) (flatE (xs.take p) ++ [.string k, .int .i64 v.kind, .bool v.b, .int .i64 v.i, .string v.t, .slice sl.a v.l.length sl.c, .slice so.a v.ok.length so.c]) rfl HO2.out (Lt w.heap.size) ⟨some ⟨gs, os, none⟩, 0⟩ 0 [] rfl (HRQ.out w4 HX4.out) (by simp) h63c hbyc hw4 ?_; intro s3 w5 hown3 hwr3 hs3; have hn5 := hwr3.cell0 (o := 0) (Ext.refl w4) (fun e => by have := (own_row (s := s2) HO2.out e).1; omega) lMW; have h0 := hn5.1.trans h0; have lMW := hn5.2; have f0 := (HX4.out.wr hwr3 (fun i hi => (own_row (s := s2) HO2.out hi).1)).frozen (o := 0) lM; rw [hfz] at f0; have HO3 := Lib.hid hown3; have HX5 := Lib.hid (HX4.out.wr hwr3 (fun i hi => (own_row (s := s2) HO2.out hi).1)); clear hown3 hwr3 hs3 hn5))
        have hfl : flatE (put7L xs p (p) x) = (flatE (xs.take p) ++ [.string k, .int .i64 v.kind, .bool v.b, .int .i64 v.i, .string v.t, .slice sl.a v.l.length sl.c, .slice so.a v.ok.length so.c]) ++ flatE (xs.drop (p)) := by rw [put7L, flatE_app, flatE_app, show flatE [x] = LE.cells x from by simp [flatE], HCS.out]
        have hpu : (put7L xs p (p) x).length = p + 1 + (xs.length - (p)) := HPUT.out
        have hzz : xs.length - (p) = 0 := by omega
        have hdd : xs.drop (p) = [] := List.drop_eq_nil_iff.2 (by omega)
        rw [hzz] at hpu
        rw [hdd] at hfl
        have hfin := HEND.out w5 s3 HX5.out (by rw [hpu, hfl]; exact HO3.out) (by rw [hpu]; omega) HE.out
        rw [hpu] at hfin
        go_end0
        exact ⟨⟨_, rfl⟩, hfin⟩
      · have hcap' : ¬ p = sc := fun e => hcap e.symm
        go_enter Tryz.func23, Tryz.ntmps23
        go_wp2_with fail
        refine HAT.out.mono ?_
        rintro e w2 ⟨rfl, nq, rfl⟩
        have hx2 := HX1.out.drewN nq
        replace h0 := (hx2.cell lM).trans h0
        have hb5' := hb5.ext ((Ext.refl _).drewN nq)
        obtain ⟨c0, c1, c2, c3, c4, c5⟩ := hb5'.c6
        have l5 := hb5'.lt
        have lMW : M < (World.drewN (w.alloc (.cells #[.int .i64 v.kind, .bool v.b, .int .i64 v.i, .string v.t, .slice sl.a v.l.length sl.c, .slice so.a v.ok.length so.c] 34)) nq).heap.size := Nat.lt_of_lt_of_le lM hx2.size
        generalize World.drewN _ nq = W2 at *
        have hw2 := hx2.size
        have hrp : Rd W2 (Lt w.heap.size) 7 ⟨some ⟨gs, os, none⟩, sc⟩ p (flatE (xs.take p)) := by have := ((HRD.out W2 hx2).take hpl).rd; rwa [List.length_take, Nat.min_eq_left hpl] at this
        have HRP := Lib.hid hrp
        have HX2 := Lib.hid hx2
        have h63a : p ≤ maxLen := by unfold maxLen; omega
        have hbya : p * 104 ≤ 140737488355328 := by omega
        have h63b : p + 1 ≤ maxLen := by unfold maxLen; omega
        have hbyb : (p + 1) * 104 ≤ 140737488355328 := by omega
        have hrq : ∀ W, Ext w W → Rd W (Lt w.heap.size) 7 ⟨some ⟨gs, os + (p) * 7, none⟩, sc - (p)⟩ (xs.length - (p)) (flatE (xs.drop (p))) := fun W hW => by have := ((HRD.out W hW).drop hql).rd; rwa [List.length_drop] at this
        have HRQ := Lib.hid hrq
        have h63c : p + 1 + (xs.length - (p)) ≤ maxLen := by unfold maxLen; omega
        have hbyc : (p + 1 + (xs.length - (p))) * 104 ≤ 140737488355328 := by omega
        have hqi : ((p : Nat) : Int) ≤ (xs.length : Int) := by omega
        have hpi : (p : Int) ≤ (xs.length : Int) := by omega
        clear hrp hx2 HAT hb5 hb5' HX1 hrq
        go_wp2_with (first
          | (at_builtin; refine wpList_append_0 rfl (.tmp 15) (.tmp 21) 48 rfl w.heap.size 64 i0 _ 7 104 Tryz.underlying48 hi hz0 hz1 hz2 rfl (by decide) rfl (Lt w.heap.size) ⟨some ⟨gs, os, none⟩, sc⟩ p (flatE (xs.take p)) rfl HRP.out (flatE_one _) h63a hbya hw2 ?_; intro s1 w3 hown1 hx3; have c0 := (hx3.cell l5).trans c0; have c1 := (hx3.cell l5).trans c1; have c2 := (hx3.cell l5).trans c2; have c3 := (hx3.cell l5).trans c3; have c4 := (hx3.cell l5).trans c4; have c5 := (hx3.cell l5).trans c5; have h0 := (hx3.cell lMW).trans h0; have l5 := Nat.lt_of_lt_of_le l5 hx3.size; have lMW := Nat.lt_of_lt_of_le lMW hx3.size; have HO1 := Lib.hid hown1; have HX3 := Lib.hid (HX2.out.trans hx3); have hw3 := HX3.out.size; have HO1A := Lib.hid (own_agree (w' := w3.alloc (.cells #[.string k, .int .i64 v.kind, .bool v.b, .int .i64 v.i, .string v.t, .slice sl.a v.l.length sl.c, .slice so.a v.ok.length so.c] 64)) (s := s1) hown1 (F := Lt w3.heap.size) (((Ext.refl w3).alloc _ _).agree fun _ h => h) fun b hb => (own_row (s := s1) hown1 hb).2); clear hown1 hx3)
          | (at_builtin; refine wpList_append_x _ rfl (.tmp 23) (.tmp 27) 48 rfl w.heap.size 64 i0 _ 7 104 Tryz.underlying48 hi hz0 hz1 hz2 rfl (by decide) s1 p (flatE (xs.take p)) rfl HO1A.out (fun b => b = w3.heap.size) ⟨some ⟨w3.heap.size, 0, none⟩, 1⟩ 1 [.string k, .int .i64 v.kind, .bool v.b, .int .i64 v.i, .string v.t, .slice sl.a v.l.length sl.c, .slice so.a v.ok.length so.c] rfl (HRD1.out w3) HONE1.out h63b hbyb (Nat.le_trans hw3 ((Ext.refl w3).alloc _ _).size) ?_; intro s2 w4 hown2 hwr2 hs2; have hx4 := ((Ext.refl w3).alloc #[.string k, .int .i64 v.kind, .bool v.b, .int .i64 v.i, .string v.t, .slice sl.a v.l.length sl.c, .slice so.a v.ok.length so.c] 64); have hn4 := hwr2.cell0 (o := 0) hx4 (fun e => by have := (own_row (s := s1) HO1.out e).1; omega) lMW; have h0 := hn4.1.trans h0; have lMW := hn4.2; have HO2 := Lib.hid hown2; have HX4 := Lib.hid ((HX3.out.trans hx4).wr hwr2 (fun i hi => (own_row (s := s1) HO1.out hi).1)); have hw4 := HX4.out.size; clear hown2 hwr2 hs2 hx4 hn4)
          | (at_builtin; refine wpList_append_x _ rfl (.tmp 33) (.tmp 39) 48 rfl w.heap.size 64 i0 _ 7 104 Tryz.underlying48 hi hz0 hz1 hz2 rfl (by decide) s2 (p + 1) (flatE (xs.take p) ++ [.string k, .int .i64 v.kind, .bool v.b, .int .i64 v.i, .string v.t, .slice sl.a v.l.length sl.c, .slice so.a v.ok.length so.c]) rfl HO2.out (Lt w.heap.size) ⟨some ⟨gs, os + (p) * 7, none⟩, sc - (p)⟩ (xs.length - (p)) (flatE (xs.drop (p))) rfl (HRQ.out w4 HX4.out) (flatE_one _) h63c hbyc hw4 ?_; intro s3 w5 hown3 hwr3 hs3; have hn5 := hwr3.cell0 (o := 0) (Ext.refl w4) (fun e => by have := (own_row (s := s2) HO2.out e).1; omega) lMW; have h0 := hn5.1.trans h0; have lMW := hn5.2; have f0 := (HX4.out.wr hwr3 (fun i hi => (own_row (s := s2) HO2.out hi).1)).frozen (o := 0) lM; rw [hfz] at f0; have HO3 := Lib.hid hown3; have HX5 := Lib.hid (HX4.out.wr hwr3 (fun i hi => (own_row (s := s2) HO2.out hi).1)); clear hown3 hwr3 hs3 hn5))
        have hfl : flatE (put7L xs p (p) x) = (flatE (xs.take p) ++ [.string k, .int .i64 v.kind, .bool v.b, .int .i64 v.i, .string v.t, .slice sl.a v.l.length sl.c, .slice so.a v.ok.length so.c]) ++ flatE (xs.drop (p)) := by rw [put7L, flatE_app, flatE_app, show flatE [x] = LE.cells x from by simp [flatE], HCS.out]
        have hpu : (put7L xs p (p) x).length = p + 1 + (xs.length - (p)) := HPUT.out
        have hfin := HEND.out w5 s3 HX5.out (by rw [hpu, hfl]; exact HO3.out) (by rw [hpu]; omega) HE.out
        rw [hpu] at hfin
        go_end0
        exact ⟨⟨_, rfl⟩, hfin⟩
section
variable {P : Program} {ops : Array Oper} {Q : Exit → Act → World → Prop} {md : Region.Mode} {S : World → Prop}
theorem held_on {i : Nat} {oi : Oper} {d : Option Tmp} {v : Value} {fuel : Nat} {listed : Array Bool} {a : Act} {w : World} (hi : ops[i]? = some oi) (hd : oi.dst = d)
    (hs : Region.noSelect ops = true) (hf : Region.free md ops listed i = true) (hr : (Region.ready md ops listed).contains i = true)
    (hQ : ∀ c a w, Q (.panic c) (a.put d v) w → Q (.panic c) a w) (hw : Region.wanted oi (yielded ops a.tmps) = true) (hS : S w) (hy : ∀ w, S w → (execOp a.eval oi).run P w = .ok (.value v) w)
    (h : wpAnyH P md ops Q S fuel (listed.setIfInBounds i true) (a.put d v) w) : wpAnyH P md ops Q S (fuel + 1) listed a w := by
  subst hd
  exact wpAnyH_take hi hs hf hr hQ (.inl ⟨hw, hy⟩) hS h
theorem held_call {i : Nat} {oi : Oper} {fuel : Nat} {listed : Array Bool} {a : Act} {w : World} (hr : Region.ready md ops listed = [i]) (hi : ops[i]? = some oi) (hw : Region.wanted oi (yielded ops a.tmps) = true)
    (h : ∀ K' : Act → World → Prop, Shut (∀ a w, S w → (S w → wpAnyH P md ops Q S fuel (listed.setIfInBounds i true) a w) → K' a w) → Oper.wp P oi a w K' Q) : wpAnyH P md ops Q S (fuel + 1) listed a w :=
  wpAnyH_ready hr (by simp) (AllReadyH.cons hi (fun K' hK => by rw [if_pos hw]; exact h K' hK) AllReadyH.nil)
end
section
variable {P : Program} {ops : Array Oper} {Q : Exit → Act → World → Prop} {md : Region.Mode} {S C : World → Prop}
theorem heldT (i : Nat) (d : Option Tmp) {v : Value} {oi : Oper} {fuel : Nat} {listed l' : Array Bool} {a a' : Act} {w : World} (hC : Hid (∀ W, S W → C W)) (hS : S w) (h : wpAnyH P md ops Q S fuel l' a' w)
    (hi : ops[i]? = some oi := by rfl) (hd : oi.dst = d := by rfl) (hs : Region.noSelect ops = true := by kernel_rfl) (hf : Region.free md ops listed i = true := by kernel_rfl) (hr : (Region.ready md ops listed).contains i = true := by kernel_rfl)
    (hy : ∀ w, C w → (execOp a.eval oi).run P w = .ok (.value v) w := by (intro w hSc; go_simp; first | done | with_reducible rfl))
    (hQ : ∀ c a w, Q (.panic c) (a.put d v) w → Q (.panic c) a w := by exact fun _ _ _ h => h) (hw : Region.wanted oi (yielded ops a.tmps) = true := by rfl)
    (hl : listed.setIfInBounds i true = l' := by first | (simp only [List.setIfInBounds_toArray, List.set_cons_zero, List.set_cons_succ]; rfl) | rfl)
    (hp : a.put d v = a' := by first | (simp only [Act.put, List.setIfInBounds_toArray, List.set_cons_zero, List.set_cons_succ]; rfl) | rfl) : wpAnyH P md ops Q S (fuel + 1) listed a w := by
  subst hl hp
  exact held_on hi hd hs hf hr hQ hw hS (fun w hw => hy w (hC.out w hw)) h
end
def CmpPost (n : Int) (w : World) (e : Ending) (w' : World) : Prop := e = .returned (.int .i64 n) ∧ Ext w w'
theorem cmpL_drop {l l' : List Val} {j : Nat} {a b : Val} (ha : l[j]? = some a) (hb : l'[j]? = some b) : cmpL (l.drop j) (l'.drop j) = if cmpV a b ≠ 0 then cmpV a b else cmpL (l.drop (j + 1)) (l'.drop (j + 1)) := by
  obtain ⟨h1, rfl⟩ := List.getElem?_eq_some_iff.1 ha
  obtain ⟨h2, rfl⟩ := List.getElem?_eq_some_iff.1 hb
  rw [List.drop_eq_getElem_cons h1, List.drop_eq_getElem_cons h2]
  simp only [cmpL]
theorem cmpL_end {l l' : List Val} {j : Nat} (h : j = l.length ∨ j = l'.length) (h1 : j ≤ l.length) (h2 : j ≤ l'.length) : cmpL (l.drop j) (l'.drop j) = numI (l.length : Int) (l'.length : Int) := by
  by_cases ha : j = l.length
  · have e1 : l.drop j = [] := List.drop_eq_nil_iff.2 (by omega)
    rw [e1]
    simp only [cmpL, List.length_drop]
    unfold numI
    by_cases hb : l'.length - j = 0
    · rw [if_pos hb, if_neg (by omega), if_neg (by omega)]
    · rw [if_neg hb, if_pos (by omega)]
  · obtain ⟨a, r, hr⟩ : ∃ a r, l.drop j = a :: r := by
      cases hd : l.drop j with
      | nil => have := List.drop_eq_nil_iff.1 hd; omega
      | cons a r => exact ⟨a, r, rfl⟩
    have e2 : l'.drop j = [] := List.drop_eq_nil_iff.2 (by omega)
    rw [hr, e2]
    simp only [cmpL]
    unfold numI
    rw [if_neg (by omega), if_pos (by omega)]
theorem cmpM_drop {l l' : List Val} {k k' : List ByteArray} {j : Nat} {a b : Val} {x y : ByteArray} (ha : l[j]? = some a) (hb : l'[j]? = some b) (hx : k[j]? = some x) (hy : k'[j]? = some y) :
    cmpM (l.drop j) (k.drop j) (k'.drop j) (l'.drop j) = if textI x y ≠ 0 then textI x y else if cmpV a b ≠ 0 then cmpV a b else cmpM (l.drop (j + 1)) (k.drop (j + 1)) (k'.drop (j + 1)) (l'.drop (j + 1)) := by
  obtain ⟨h1, rfl⟩ := List.getElem?_eq_some_iff.1 ha
  obtain ⟨h2, rfl⟩ := List.getElem?_eq_some_iff.1 hb
  obtain ⟨h3, rfl⟩ := List.getElem?_eq_some_iff.1 hx
  obtain ⟨h4, rfl⟩ := List.getElem?_eq_some_iff.1 hy
  rw [List.drop_eq_getElem_cons h1, List.drop_eq_getElem_cons h2, List.drop_eq_getElem_cons h3, List.drop_eq_getElem_cons h4]
  simp only [cmpM, List.headD_cons, List.tail_cons]
  rfl
theorem cmpM_end {l l' : List Val} {k k' : List ByteArray} {j : Nat} (h : j = l.length ∨ j = l'.length) (h1 : j ≤ l.length) (h2 : j ≤ l'.length) : cmpM (l.drop j) (k.drop j) (k'.drop j) (l'.drop j) = numI (l.length : Int) (l'.length : Int) := by
  by_cases ha : j = l.length
  · have e1 : l.drop j = [] := List.drop_eq_nil_iff.2 (by omega)
    rw [e1]
    simp only [cmpM, List.length_drop]
    unfold numI
    by_cases hb : l'.length - j = 0
    · rw [if_pos hb, if_neg (by omega), if_neg (by omega)]
    · rw [if_neg hb, if_pos (by omega)]
  · obtain ⟨a, r, hr⟩ : ∃ a r, l.drop j = a :: r := by
      cases hd : l.drop j with
      | nil => have := List.drop_eq_nil_iff.1 hd; omega
      | cons a r => exact ⟨a, r, rfl⟩
    have e2 : l'.drop j = [] := List.drop_eq_nil_iff.2 (by omega)
    rw [hr, e2]
    simp only [cmpM]
    unfold numI
    rw [if_neg (by omega), if_pos (by omega)]
inductive BuiltR : List Ent → RT → Prop
  | nil : BuiltR [] none
  | snoc {es : List Ent} {T T' : RT} {B : Nat} {k : ByteArray} {v : Val} (h : BuiltR es T) (hp : PutR B k v T T') : BuiltR (es ++ [(k, v)]) T'
def putAll (es : List Ent) (l : List Ent) : List Ent := l.foldl (fun m e => insE m e.1 e.2) es
theorem putAll_snoc (es l : List Ent) (e : Ent) : putAll es (l ++ [e]) = insE (putAll es l) e.1 e.2 := by simp [putAll]
theorem putAll_len (l : List Ent) : ∀ es : List Ent, (putAll es l).length ≤ es.length + l.length := by
  induction l with
  | nil => intro es; exact Nat.le_refl _
  | cons a l ih =>
    intro es
    have := ih (insE es a.1 a.2)
    have h2 := insE_len es a.1 a.2
    simp only [putAll, List.foldl_cons, List.length_cons] at *
    omega
theorem BuiltR.both {l : List Ent} {T : RT} (h : BuiltR l T) : (OkR T) ∧ entsT T = putAll [] l := by
  induction h with
  | nil => exact ⟨trivial, rfl⟩
  | snoc h hp ih => exact ⟨hp.ok ih.1, by rw [hp.ents ih.1, ih.2, putAll_snoc]⟩
def BuildPost (es : List Ent) (w : World) (e : Ending) (w' : World) : Prop :=
  ∃ T, e = .returned (treeV T) ∧ BuiltR es T ∧ IsT w' (In w.heap.size w'.heap.size) T ∧ Ext w w'
theorem rootV_ptr (T : RT) : ∃ p, rootV T = .pointer p := by
  match T with
  | none => exact ⟨_, rfl⟩
  | some ⟨h, t⟩ => exact ⟨_, rfl⟩
theorem ES.ext {w w' : World} {s : Sl} {xs : List LE} (h : ES w (Lt w.heap.size) s xs) (he : Ext w w') : ES w' (Lt w'.heap.size) s xs := (h.agree (he.agree fun _ h => h)).mono fun _ hi => Nat.lt_of_lt_of_le hi he.size
theorem build_big {w : World} {s : Sl} {xs : List LE} (hs : ES w (Lt w.heap.size) s xs) (hl : xs.length ≤ 500000) : Calls Tryz.prog 24 #[.slice s.a xs.length s.c] w (BuildPost (xs.map LE.ent) w) := by
  have HS := Lib.hid hs
  clear hs
  go_enter Tryz.func24, Tryz.ntmps24
  go_wp2_with fail
  generalize hW0 : World.alloc (World.alloc _ _) _ = W0
  obtain ⟨hxx, hzz, hb0, hb1⟩ := two_blocks w _ _ _ _ W0 hW0
  clear hW0
  go_loopw [8] (fun i wr => ∃ (j : Nat) (T : RT) (p : Option Addr), j ≤ xs.length ∧ i = .int .i64 j ∧ Ext w wr ∧ Blk wr w.heap.size 25 #[.pointer none] ∧ Blk wr (w.heap.size + 1) 25 #[.pointer p] ∧ Hid (rootV T = .pointer p) ∧ BuiltR ((xs.take j).map LE.ent) T ∧ IsT wr (In (w.heap.size + 2) wr.heap.size) T)
    (fun i _ => xs.length - (intOf i).toNat)
  case atStart => exact ⟨0, none, none, Nat.zero_le _, rfl, hxx, hb0, hb1, Lib.hid rfl, .nil, trivial⟩
  case round =>
    obtain ⟨j, T, p, hj, rfl, hx, hR, hS, HP, hB, hT⟩ := hrel
    clear hxx hzz hb0 hb1
    have HX := Lib.hid hx
    have HR := Lib.hid hR
    have HB := Lib.hid hB
    have HT := Lib.hid hT
    have HSS := Lib.hid hS
    have c0 : wr.cell? ⟨w.heap.size + 1, 0, none⟩ = some (.pointer p) := hS.cell 0
    have fS := hS.frozen
    have lS := hS.lt
    by_cases hlt : j < xs.length
    · obtain ⟨x, hxj⟩ : ∃ x, xs[j]? = some x := ⟨_, List.getElem?_eq_getElem hlt⟩
      obtain ⟨b, o, ha, hbl, hlc, hcm, k0, hv, hrv, hkm⟩ := (HS.out.ext hx).at hxj
      obtain ⟨v0, v1, v2, v3, v4, v5⟩ := hv.m
      have hil' : (j : Int) < (xs.length : Int) := by omega
      have hok := hB.both
      have hpt : ∀ W, Ext wr W → Calls Tryz.prog 40 #[.agg #[.pointer p], .string x.k, aggV x.v x.sl x.so] W (PutPost (In (w.heap.size + 2) wr.heap.size) T x.k x.v W) := fun W hW => by
        rw [← HP.out]
        exact put_any (fun b hb => Nat.lt_of_lt_of_le hb.2 hW.size) (hT.agree (hW.agree fun b hb => hb.2)) hok.1 (by
          rw [hok.2]
          have := putAll_len ((xs.take j).map LE.ent) []
          simp only [List.length_map, List.length_take, List.length_nil] at this
          omega) hkm ((hrv.agree (hW.agree fun b hb => hb)).mono fun b hb => Nat.lt_of_lt_of_le hb hW.size)
      obtain ⟨sa, sc⟩ := s
      dsimp only at ha
      subst ha
      have HPT := Lib.hid hpt
      have HXJ := Lib.hid hxj
      clear hx hR hS hB hT hxj hv hrv hok hpt
      go_wp2_with fail
      refine (HPT.out _ ((Ext.refl wr).alloc _ _)).mono ?_
      rintro e w2 ⟨T2, rfl, hp2, hT2, hx2⟩
      obtain ⟨p2, hq2⟩ := rootV_ptr T2
      have HQ2 := Lib.hid hq2
      dsimp only [treeV]
      rw [hq2]
      clear hq2
      have hX2 : Ext wr w2 := ((Ext.refl wr).alloc _ _).trans hx2
      have d0 : w2.cell? ⟨w.heap.size + 1, 0, none⟩ = some (.pointer p) := (hX2.cell lS).trans c0
      have f2 : ∀ o, w2.frozen? ⟨w.heap.size + 1, o, none⟩ = false := fun o => (hX2.frozen lS).trans (fS o)
      have hE := (HX.out.trans hX2).setCell (p := ⟨w.heap.size + 1, 0, none⟩) (show w.heap.size ≤ w.heap.size + 1 by omega) (.pointer p2)
      have hR2 := (HR.out.ext hX2).far (p := ⟨w.heap.size + 1, 0, none⟩) (by simp) (.pointer p2)
      have hS2 : Blk (w2.setCell ⟨w.heap.size + 1, 0, none⟩ (.pointer p2)) (w.heap.size + 1) 25 #[.pointer p2] := (HSS.out.ext hX2).set_ 0 _
      have hT3 : IsT (w2.setCell ⟨w.heap.size + 1, 0, none⟩ (.pointer p2)) (In (w.heap.size + 2) (w2.setCell ⟨w.heap.size + 1, 0, none⟩ (.pointer p2)).heap.size) T2 := by
        have hs2 := hX2.size
        have hlt := lS
        have hm : ∀ i, Up (In (w.heap.size + 2) wr.heap.size) (wr.alloc (.cells #[.string x.k, .int .i64 x.v.kind, .bool x.v.b, .int .i64 x.v.i, .string x.v.t, .slice x.sl.a x.v.l.length x.sl.c, .slice x.so.a x.v.ok.length x.so.c] 64)) w2 i → In (w.heap.size + 2) w2.heap.size i := fun i hi => by
          rcases hi with hi | hi
          · exact ⟨hi.1, Nat.lt_of_lt_of_le hi.2 hs2⟩
          · have := hi.1
            simp at this
            exact ⟨by omega, hi.2⟩
        refine ((hT2.mono hm).agree (Agree.setCell w2 ⟨w.heap.size + 1, 0, none⟩ _ (fun h => by have h1 : w.heap.size + 2 ≤ w.heap.size + 1 := h.1; omega))).mono fun i hi => ⟨hi.1, by simpa using hi.2⟩
      have HB2 := Lib.hid (BuiltR.snoc HB.out hp2)
      have H1 := Lib.hid hE
      have H2 := Lib.hid hR2
      have H3 := Lib.hid hS2
      have H4 := Lib.hid hT3
      clear hp2 hT2 hx2 hX2 hE hR2 hS2 hT3
      go_wp2_with fail
      go_roundw
      case rel => exact ⟨j + 1, T2, p2, hlt, by go_num, H1.out, H2.out, H3.out, HQ2, by rw [List.take_add_one, HXJ.out, List.map_append]; exact HB2.out, H4.out⟩
      case measure => simp [intOf]; omega
    · obtain rfl : j = xs.length := by omega
      have r0 : wr.cell? ⟨w.heap.size, 0, none⟩ = some (.pointer none) := hR.cell 0
      have fR := hR.frozen
      clear hx hR hS hB hT
      go_wp2_with fail
      have q0 : (wr.setCell ⟨w.heap.size, 0, none⟩ (.pointer p)).cell? ⟨w.heap.size, 0, none⟩ = some (.pointer p) := World.cell?_setCell_same wr _ _ r0
      refine bodyPost_ret (v := .agg #[.pointer p]) (by simp [results, Tryz.results24, go_sem, q0]) rfl ?_
      refine ⟨T, by rw [treeV, HP.out], by have := HB.out; rwa [List.take_length] at this, ?_, HX.out.setCell (p := ⟨w.heap.size, 0, none⟩) (Nat.le_refl _) _⟩
      exact (HT.out.agree (Agree.setCell wr ⟨w.heap.size, 0, none⟩ _ (fun h => by have h1 : w.heap.size + 2 ≤ w.heap.size := h.1; omega))).mono fun i hi => ⟨by have := hi.1; omega, by simpa using hi.2⟩
theorem build_any {w : World} {s : Sl} {xs : List LE} (hs : ES w (Lt w.heap.size) s xs) (hl : xs.length ≤ 100000) : Calls Tryz.prog 24 #[.slice s.a xs.length s.c] w (BuildPost (xs.map LE.ent) w) := build_big hs (by omega)
def Copy7Post (H : Nat → Prop) (es : List Ent) (w : World) (e : Ending) (w' : World) : Prop :=
  ∃ M', e = .returned (.pointer (some ⟨M', 0, none⟩)) ∧ w.heap.size ≤ M' ∧ Ext w w' ∧ MapAt (fun b => H b ∨ b = M') w' M' es
theorem copy7_any {H : Nat → Prop} {w : World} {M : Nat} {es : List Ent} (h : MapAt H w M es) (hH : ∀ b, H b → b < w.heap.size) (hc : es.length ≤ 1000000) :
    Calls Tryz.prog 43 #[.pointer (some ⟨M, 0, none⟩)] w (Copy7Post H es w) := by
  obtain ⟨i0, hi, hz0, hz1, hz2⟩ := info_parts Tryz.infoEntry
  obtain ⟨hm, s, xs, hb, hs, hxs⟩ := h
  have h0 : w.cell? ⟨M, 0, none⟩ = some (.slice s.a xs.length s.c) := hb.cell 0
  have hlen : xs.length = es.length := by rw [← hxs, List.length_map]
  have h63 : xs.length ≤ maxLen := by unfold maxLen; omega
  have hby : xs.length * 104 ≤ 140737488355328 := by omega
  have HS := Lib.hid hs
  have HXS := Lib.hid hxs
  clear hb hs hxs hlen
  go_enter Tryz.func43, Tryz.ntmps43
  go_wp2_with (at_builtin; refine wpList_append_0 rfl (.const (.slice none 0 0)) (.tmp 6) 48 rfl w.heap.size 64 i0 _ 7 104 Tryz.underlying48 hi hz0 hz1 hz2 rfl (by decide) rfl (NH H w) s xs.length (flatE xs) rfl HS.out.rd (flatE_one _) h63 hby (Nat.le_refl _) ?_; intro s1 w1 hown1 hx1; have HO1 := Lib.hid hown1; have HX1 := Lib.hid hx1; clear hown1 hx1)
  go_ret
  have hE : Ext w1 (w1.alloc (.cells #[.slice s1.a xs.length s1.c] 50)) := (Ext.refl _).alloc _ _
  have hX := HX1.out.trans hE
  have hz := HX1.out.size
  refine ⟨w1.heap.size, rfl, hz, hX, .inr rfl, s1, xs, Blk.new w1 _ _, ⟨?_, ?_, hby⟩, HXS.out⟩
  · refine ((Rd.of_own HO1.out).agree (hE.agree fun i hi => hi.2)).mono fun i hi => ⟨by rw [World.size_alloc]; have := hi.2; omega, fun h => ?_⟩
    have h1 := hi.1
    have h2 := hi.2
    rcases h with h | h
    · have := hH i h; omega
    · omega
  · intro x hx
    refine ⟨((HS.out.vals x hx).1.agree (hX.agree fun i hi => hi.1)).mono fun i hi => ⟨Nat.lt_of_lt_of_le hi.1 hX.size, fun h => ?_⟩, (HS.out.vals x hx).2⟩
    have h1 := hi.1
    rcases h with h | h
    · exact hi.2 h
    · omega
abbrev RowsE (sl sr : Sl) : Nat → Prop := fun b => sl.row = some b ∨ sr.row = some b
def BPostE (P : Nat → World → Prop) (W : World) (e : Ending) (W' : World) : Prop := ∃ a, e = .returned (.pointer (some ⟨a, 0, none⟩)) ∧ W.heap.size ≤ a ∧ P a W' ∧ Ext W W'
theorem own_stE {w W : World} {base n : Nat} {s : Sl} {xs : List Value} {G : Nat → Prop} (h : w.ownsRow base 64 7 (.slice s.a n s.c) n xs) (hs : St G w W) (hG : ∀ b, s.row = some b → ¬ G b) : W.ownsRow base 64 7 (.slice s.a n s.c) n xs :=
  own_agree h hs.agree fun b hb => ⟨(own_row h hb).2, hG b hb⟩
theorem rd_takeE {w : World} {F : Nat → Prop} {n m : Nat} {s : Sl} {cs : List Value} (h : Rd w F 7 s n cs) (hm : m ≤ n) : Rd w F 7 s m (cs.take (m * 7)) := h.take hm
theorem lastE {ls : List Value} {n : Nat} (hl : ls.length = n * 7) (hn : 0 < n) (hp : True) : ∃ v0 v1 v2 v3 v4 v5 v6 : Value, ls.drop ((n - 1) * 7) = [v0, v1, v2, v3, v4, v5, v6] := by
  have h : (ls.drop ((n - 1) * 7)).length = 7 := by rw [List.length_drop, hl]; omega
  match hd : ls.drop ((n - 1) * 7), h with
  | [v0, v1, v2, v3, v4, v5, v6], _ => exact ⟨v0, v1, v2, v3, v4, v5, v6, rfl⟩
section
variable {w : World} {base m nr : Nat} {sl sr : Sl} {ls rs : List Value} {P1 P2 : Nat → World → Prop}
theorem pairE_left (hL : w.ownsRow base 64 7 (.slice sl.a (m + 1) sl.c) (m + 1) ls) (hR : w.ownsRow base 64 7 (.slice sr.a nr sr.c) nr rs) (hb : base ≤ w.heap.size) (hne : ∀ b, sl.row = some b → sr.row ≠ some b)
    (hl1 : ∀ u ∈ ls, u.oneCell' = true) (hr1 : ∀ u ∈ rs, u.oneCell' = true) (hpt : True) (h4 : 4 < m + 1) (h8 : m + 1 ≤ 8) (r8 : nr ≤ 8)
    (hB1 : ∀ (W : World) (s : Sl), St (RowsE sl sr) w W → Rd W (Lt W.heap.size) 7 s m (ls.take (m * 7)) → Calls Tryz.prog 106 #[.slice s.a m s.c] W (BPostE P1 W))
    (hB2 : ∀ (W : World) (s : Sl), St (RowsE sl sr) w W → Rd W (Lt W.heap.size) 7 s (nr + 1) (ls.drop (m * 7) ++ rs) → Calls Tryz.prog 106 #[.slice s.a (nr + 1) s.c] W (BPostE P2 W))
    (hP1 : ∀ a W W', St (RowsE sl sr) w W → P1 a W → St (RowsE sl sr) W W' → P1 a W') :
    Calls Tryz.prog 163 #[.slice sl.a (m + 1) sl.c, .slice sr.a nr sr.c, .func (.func 106) #[] #[]] w fun e w' => ∃ a b, e = .returned (.tuple #[.pointer (some ⟨a, 0, none⟩), .pointer (some ⟨b, 0, none⟩)]) ∧ w.heap.size ≤ a ∧ w.heap.size ≤ b ∧ P1 a w' ∧ P2 b w' ∧ St (RowsE sl sr) w w' := by
  obtain ⟨i0, hi, hz0, hz1, hz2⟩ := info_parts Tryz.infoEntry
  obtain ⟨v0, v1, v2, v3, v4, v5, v6, hlast⟩ := lastE hL.1 (by omega) hpt
  rw [Nat.add_sub_cancel] at hlast
  obtain ⟨gl, capl, rfl, hgb, hncl, hcml, hfill⟩ := own_block hL (by omega)
  have hgl : gl < w.heap.size := hfill.lt
  have hrowl : ∀ b, sr.row = some b → b < w.heap.size := fun b hb => (own_row hR hb).2
  have hcl : ∀ W, St (fun b => sr.row = some b) w W → ∀ j u, ls[j]? = some u → W.cell? ⟨gl, j, none⟩ = some u := fun W hW j u hj => by
    obtain ⟨b, o, h1, h2, h3⟩ := Rd.of_own hL
    obtain ⟨e1, -, -⟩ := h1.eq (by omega)
    obtain ⟨rfl, rfl⟩ : gl = b ∧ 0 = o := by simpa using e1
    have := h3 j u hj
    rw [Nat.zero_add] at this
    exact (hW.cell hgl (hne gl rfl)).trans this
  have hlc : ∀ (c : Nat) (u : Value), ([v0, v1, v2, v3, v4, v5, v6] : List Value)[c]? = some u → ls[m * 7 + c]? = some u := fun c u hu => by rw [← hlast, List.getElem?_drop] at hu; exact hu
  have hS : ∀ W, St (fun b => sr.row = some b) w W → W.cell? ⟨gl, m * 7, none⟩ = some v0 ∧ W.cell? ⟨gl, m * 7 + 1, none⟩ = some v1 ∧ W.cell? ⟨gl, m * 7 + 2, none⟩ = some v2 ∧ W.cell? ⟨gl, m * 7 + 3, none⟩ = some v3 ∧ W.cell? ⟨gl, m * 7 + 4, none⟩ = some v4 ∧ W.cell? ⟨gl, m * 7 + 5, none⟩ = some v5 ∧ W.cell? ⟨gl, m * 7 + 6, none⟩ = some v6 := fun W hW => ⟨hcl W hW _ _ (hlc 0 _ rfl), hcl W hW _ _ (hlc 1 _ rfl), hcl W hW _ _ (hlc 2 _ rfl), hcl W hW _ _ (hlc 3 _ rfl), hcl W hW _ _ (hlc 4 _ rfl), hcl W hW _ _ (hlc 5 _ rfl), hcl W hW _ _ (hlc 6 _ rfl)⟩
  have hgt : (4 : Int) < (m : Int) + 1 := by omega
  have hmc : (m : Int) ≤ (capl : Int) := by omega
  have hmn : (m : Int) < (m : Int) + 1 := by omega
  have hcm' : (capl : Int) ≤ 9223372036854775807 := by unfold maxLen at hcml; omega
  have hw1 : IntKind.i64.wrap ((m : Int) + 1) = (m : Int) + 1 := by rw [IntKind.wrap_i64]; omega
  have hb1 : ∀ W, St (fun b => sr.row = some b) w W → Calls Tryz.prog 106 #[.slice (some ⟨gl, 0, none⟩) m capl] W (BPostE P1 W) := fun W hW =>
    hB1 W ⟨some ⟨gl, 0, none⟩, capl⟩ (hW.mono fun i _ hi => .inr hi) (rd_takeE ((Rd.of_own (own_stE (s := ⟨some ⟨gl, 0, none⟩, capl⟩) hL hW (fun b hb => hne b hb))).mono fun i hi => hi.2) (by omega))
  have hins : ∀ W vb, Ext w W → Blk W vb 64 #[v0, v1, v2, v3, v4, v5, v6] → w.heap.size ≤ vb → Calls Tryz.prog 104 #[.slice sr.a nr sr.c, .int .i64 0, .slice (some ⟨vb, 0, none⟩) 1 1] W (InsPostE base sr nr 0 rs [v0, v1, v2, v3, v4, v5, v6] W) := fun W vb hW hv hvb =>
    insE_any (own_stE hR (hW.st (fun _ => False)) (fun _ _ h => h)) (Nat.le_trans hb hW.size) (by omega) (Nat.zero_le _) rfl hv (fun e => by have := hrowl vb e; omega) (fun u hu => hl1 u (List.mem_of_mem_drop (hlast ▸ hu))) hr1
  have HS := Lib.hid hS
  have HB1 := Lib.hid hb1
  have HB2 := Lib.hid hB2
  have HI := Lib.hid hins
  have HP1 := Lib.hid hP1
  have HL := Lib.hid hlast
  clear hS hb1 hB1 hB2 hins hP1 hlast hlc hcl hl1 hr1 hL hR hfill hne
  go_enter Tryz.func163, Tryz.ntmps163
  go_wp2_with fail
  have s0 := (St.refl (fun b => sr.row = some b) w).drew
  have k0 := HS.out _ s0
  have e0 := (Ext.refl w).drew
  have sA := ((((Ext.refl w).alloc #[v0, v1, v2, v3, v4, v5, v6] 64).drew).st (fun b => sr.row = some b))
  have HV0 := Lib.hid (show Blk (w.alloc (.cells #[v0, v1, v2, v3, v4, v5, v6] 64)).drew w.heap.size 64 #[v0, v1, v2, v3, v4, v5, v6] from Blk.new w 64 _)
  go_region_held3 (fun W => W.cell? ⟨gl, m * 7, none⟩ = some v0 ∧ W.cell? ⟨gl, m * 7 + 1, none⟩ = some v1 ∧ W.cell? ⟨gl, m * 7 + 2, none⟩ = some v2 ∧ W.cell? ⟨gl, m * 7 + 3, none⟩ = some v3 ∧ W.cell? ⟨gl, m * 7 + 4, none⟩ = some v4 ∧ W.cell? ⟨gl, m * 7 + 5, none⟩ = some v5 ∧ W.cell? ⟨gl, m * 7 + 6, none⟩ = some v6) (first | (with_reducible exact HS.out _ s0) | (with_reducible exact HS.out _ (s0.alloc _ _)) | (with_reducible exact HS.out _ s1) | (with_reducible exact HS.out _ (s1.alloc _ _)) | (with_reducible exact HS.out _ s2) | (with_reducible exact HS.out _ s3q) | (with_reducible exact HS.out _ sA) | go_keep)
    (first
      | (go_at_call_of 106 (Value.slice (some ⟨gl, 0, none⟩) m capl); refine (HB1.out _ (by first | exact s0 | exact s0.alloc _ _)).mono ?_; rintro e w1 ⟨a1, rfl, ha1, hp1, hx1⟩; have s1 := (show St (fun b => sr.row = some b) w _ from by first | exact s0 | exact s0.alloc _ _).ext hx1; have e1 := (show Ext w _ from by first | exact e0 | exact e0.alloc _ _).trans hx1; have HPA := Lib.hid hp1; clear hp1)
      | (go_at_call 104; refine (HI.out _ _ (by first | (with_reducible exact e1) | exact e1.alloc _ _) (by first | exact (Blk.new _ _ _) | exact Blk.ext HV0.out hx1) (by first | exact e1.size | exact Nat.le_refl _)).mono ?_; rintro e w2 ⟨s3, rfl, ho2, hw2, hr2⟩; have s12 := (show St (RowsE ⟨some ⟨gl, 0, none⟩, capl⟩ sr) w1 w2 from by first | exact (hw2.st fun i hi => .inr hi) | exact (((Ext.refl w1).alloc _ _).st _).trans (hw2.st fun i hi => .inr hi)); have s2 := s1.trans (show St (fun b => sr.row = some b) w1 w2 from by first | exact (hw2.st fun i hi => hi) | exact (((Ext.refl w1).alloc _ _).st _).trans (hw2.st fun i hi => hi)); have HO2 := Lib.hid ho2; clear ho2 hw2 hr2)
      | (go_at_call 106; refine (HB2.out w2 s3 (s2.mono fun i _ hi => .inr hi) ?_).mono ?_; (have h := Rd.of_own HO2.out; simp only [Nat.zero_mul, List.take_zero, List.nil_append, List.drop_zero] at h; rw [← HL.out] at h; exact h.mono fun i hi => hi.2); rintro e w3 ⟨a2, rfl, ha2, hp2, hx3⟩; have s3q := s2.ext hx3; have HPB := Lib.hid hp2; clear hp2))
  all_goals
    go_wp2_with fail
    go_ret2
    have hs1 := s1.size
    have hs2 := s2.size
    refine ⟨a1, a2, rfl, ?_, Nat.le_trans hs2 ha2, HP1.out a1 w1 w3 (s1.mono fun i _ hi => .inr hi) HPA.out (s12.ext hx3), HPB.out, s3q.mono fun i _ hi => .inr hi⟩
    simp only [World.size_alloc, World.size_drew] at ha1
    omega
end
theorem firstE {rs : List Value} {n : Nat} (hl : rs.length = n * 7) (hn : 0 < n) (hp : True) : ∃ v0 v1 v2 v3 v4 v5 v6 : Value, rs.take 7 = [v0, v1, v2, v3, v4, v5, v6] := by
  have h : (rs.take 7).length = 7 := by rw [List.length_take, hl]; omega
  match hd : rs.take 7, h with
  | [v0, v1, v2, v3, v4, v5, v6], _ => exact ⟨v0, v1, v2, v3, v4, v5, v6, rfl⟩
section
variable {w : World} {base nl m : Nat} {sl sr : Sl} {ls rs : List Value} {P1 P2 : Nat → World → Prop}
theorem pairE_right (hL : w.ownsRow base 64 7 (.slice sl.a nl sl.c) nl ls) (hR : w.ownsRow base 64 7 (.slice sr.a (m + 1) sr.c) (m + 1) rs) (hb : base ≤ w.heap.size) (hne : ∀ b, sl.row = some b → sr.row ≠ some b)
    (hl1 : ∀ u ∈ ls, u.oneCell' = true) (hr1 : ∀ u ∈ rs, u.oneCell' = true) (hpt : True) (h4 : nl ≤ 4) (h5 : 4 < m + 1) (h8 : m + 1 ≤ 8)
    (hB1 : ∀ (W : World) (s : Sl), St (RowsE sl sr) w W → Rd W (Lt W.heap.size) 7 s (nl + 1) (ls ++ rs.take 7) → Calls Tryz.prog 106 #[.slice s.a (nl + 1) s.c] W (BPostE P1 W))
    (hB2 : ∀ (W : World) (s : Sl), St (RowsE sl sr) w W → Rd W (Lt W.heap.size) 7 s m (rs.drop 7) → Calls Tryz.prog 106 #[.slice s.a m s.c] W (BPostE P2 W))
    (hP1 : ∀ a W W', St (RowsE sl sr) w W → P1 a W → St (RowsE sl sr) W W' → P1 a W') :
    Calls Tryz.prog 163 #[.slice sl.a nl sl.c, .slice sr.a (m + 1) sr.c, .func (.func 106) #[] #[]] w fun e w' => ∃ a b, e = .returned (.tuple #[.pointer (some ⟨a, 0, none⟩), .pointer (some ⟨b, 0, none⟩)]) ∧ w.heap.size ≤ a ∧ w.heap.size ≤ b ∧ P1 a w' ∧ P2 b w' ∧ St (RowsE sl sr) w w' := by
  obtain ⟨i0, hi, hz0, hz1, hz2⟩ := info_parts Tryz.infoEntry
  obtain ⟨v0, v1, v2, v3, v4, v5, v6, hfirst⟩ := firstE hR.1 (by omega) hpt
  obtain ⟨gr, capr, rfl, hgb, hncr, hcmr, hfilr⟩ := own_block hR (by omega)
  have hgr : gr < w.heap.size := hfilr.lt
  have hne' : ∀ b, sl.row = some b → b ≠ gr := fun b hb e => hne b hb (by simp [Sl.row, e])
  have hrd : Rd w (fun b => b = gr) 7 ⟨some ⟨gr, 0, none⟩, capr⟩ (m + 1) rs := by
    obtain ⟨b, o, h1, h2, h3⟩ := Rd.of_own hR
    obtain ⟨e1, hnc, hcm⟩ := h1.eq (by omega)
    obtain ⟨rfl, rfl⟩ : gr = b ∧ 0 = o := by simpa using e1
    exact ⟨gr, 0, .some _ _ _ _ hnc hcm rfl, h2, h3⟩
  have hcr : ∀ W, St (fun b => sl.row = some b) w W → ∀ j u, rs[j]? = some u → W.cell? ⟨gr, j, none⟩ = some u := fun W hW j u hj => by
    obtain ⟨b, o, h1, h2, h3⟩ := Rd.of_own hR
    obtain ⟨e1, -, -⟩ := h1.eq (by omega)
    obtain ⟨rfl, rfl⟩ : gr = b ∧ 0 = o := by simpa using e1
    have := h3 j u hj
    rw [Nat.zero_add] at this
    exact (hW.cell hgr (fun e => hne' gr e rfl)).trans this
  have hfc : ∀ (c : Nat) (u : Value), ([v0, v1, v2, v3, v4, v5, v6] : List Value)[c]? = some u → rs[c]? = some u := fun c u hu => by
    rw [← hfirst, List.getElem?_take] at hu
    split at hu
    · exact hu
    · cases hu
  have hS : ∀ W, St (fun b => sl.row = some b) w W → W.cell? ⟨gr, 0, none⟩ = some v0 ∧ W.cell? ⟨gr, 1, none⟩ = some v1 ∧ W.cell? ⟨gr, 2, none⟩ = some v2 ∧ W.cell? ⟨gr, 3, none⟩ = some v3 ∧ W.cell? ⟨gr, 4, none⟩ = some v4 ∧ W.cell? ⟨gr, 5, none⟩ = some v5 ∧ W.cell? ⟨gr, 6, none⟩ = some v6 := fun W hW => ⟨hcr W hW _ _ (hfc 0 _ rfl), hcr W hW _ _ (hfc 1 _ rfl), hcr W hW _ _ (hfc 2 _ rfl), hcr W hW _ _ (hfc 3 _ rfl), hcr W hW _ _ (hfc 4 _ rfl), hcr W hW _ _ (hfc 5 _ rfl), hcr W hW _ _ (hfc 6 _ rfl)⟩
  have hn4 : ¬ (4 : Int) < (nl : Int) := by omega
  have hgt : (4 : Int) < (m : Int) + 1 := by omega
  have hm0 : (0 : Int) < (m : Int) + 1 := by omega
  have hm1 : (1 : Int) ≤ (m : Int) + 1 := by omega
  have hc1 : ¬ capr = 1 := by omega
  have hw1 : IntKind.i64.wrap ((m : Int) + 1) = (m : Int) + 1 := by rw [IntKind.wrap_i64]; omega
  have hcm' : (capr : Int) ≤ 9223372036854775807 := by unfold maxLen at hcmr; omega
  have hcn : (m : Int) + 1 ≤ (capr : Int) := by omega
  have h63 : nl + 1 ≤ maxLen := by unfold maxLen; omega
  have hby : (nl + 1) * 104 ≤ 140737488355328 := by omega
  have hown : ∀ W, Ext w W → W.ownsRow base 64 7 (.slice sl.a nl sl.c) nl ls := fun W hW => own_stE hL (hW.st (fun _ => False)) (fun _ _ h => h)
  have hb2 : ∀ W, St (fun b => sl.row = some b) w W → Calls Tryz.prog 106 #[.slice (some ⟨gr, 7, none⟩) m (capr - 1)] W (BPostE P2 W) := fun W hW => by
    refine hB2 W ⟨some ⟨gr, 7, none⟩, capr - 1⟩ (hW.mono fun i _ hi => .inl hi) ?_
    have h := ((hrd.agree (hW.agree.mono fun i (hi : i = gr) => ⟨by omega, fun e => hne' i e hi⟩)).drop (m := 1) (by omega)).mono (G := Lt W.heap.size) fun i (hi : i = gr) => by have := hW.size; show i < _; omega
    simpa using h
  have HS := Lib.hid hS
  have HB1 := Lib.hid hB1
  have HB2 := Lib.hid hb2
  have HP1 := Lib.hid hP1
  have HF := Lib.hid hfirst
  have HOWN := Lib.hid hown
  have HL1 := Lib.hid hl1
  have H1C : Hid (∀ u ∈ ([v0, v1, v2, v3, v4, v5, v6] : List Value), u.oneCell' = true) := Lib.hid fun u hu => hr1 u (List.mem_of_mem_take (hfirst ▸ hu))
  clear hS hb2 hB1 hB2 hP1 hfirst hcr hfc hl1 hr1 hL hR hfilr hne hne' hown hrd
  go_enter Tryz.func163, Tryz.ntmps163
  go_wp2_with fail
  have s0 := (St.refl (fun b => sl.row = some b) w).drew
  have e0 := (Ext.refl w).drew
  have sA := ((((Ext.refl w).alloc #[v0, v1, v2, v3, v4, v5, v6] 64).drew).st (fun b => sl.row = some b))
  have k0 := HS.out _ s0
  have HV0 := Lib.hid (show Blk (w.alloc (.cells #[v0, v1, v2, v3, v4, v5, v6] 64)).drew w.heap.size 64 #[v0, v1, v2, v3, v4, v5, v6] from Blk.new w 64 _)
  go_region_held3 (fun W => W.cell? ⟨gr, 0, none⟩ = some v0 ∧ W.cell? ⟨gr, 1, none⟩ = some v1 ∧ W.cell? ⟨gr, 2, none⟩ = some v2 ∧ W.cell? ⟨gr, 3, none⟩ = some v3 ∧ W.cell? ⟨gr, 4, none⟩ = some v4 ∧ W.cell? ⟨gr, 5, none⟩ = some v5 ∧ W.cell? ⟨gr, 6, none⟩ = some v6) (first | (with_reducible exact HS.out _ s0) | (with_reducible exact HS.out _ sA) | (with_reducible exact HS.out _ s1) | (with_reducible exact HS.out _ s2) | (with_reducible exact HS.out _ s3) | go_keep)
    (first
      | (refine step_append_x _ rfl (.tmp 35) (.tmp 39) 48 rfl base 64 i0 _ 7 104 Tryz.underlying48 hi hz0 hz1 hz2 rfl (by decide) sl nl ls (by rfl) (HOWN.out _ (((Ext.refl w).alloc _ _).drew)) (fun b => b = w.heap.size) ⟨some ⟨w.heap.size, 0, none⟩, 1⟩ 1 [v0, v1, v2, v3, v4, v5, v6] (by rfl) (Rd.block HV0.out (by decide) rfl) H1C.out h63 hby (by rw [World.size_drew, World.size_alloc]; omega) ?_; intro sx w1 hown1 hwr1 hsx; have s1 := sA.trans (hwr1.st fun i hi => hi); have HO1 := Lib.hid hown1; clear hown1 hsx)
      | (go_at_call 106; refine (HB2.out w2 s2).mono ?_; rintro e w3 ⟨a2, rfl, ha2, hp2, hx3⟩; have s3 := s2.ext hx3; have HPB := Lib.hid hp2; clear hp2)
      | (go_at_call 106; refine (HB1.out w1 sx (s1.mono fun i _ hi => .inl hi) ?_).mono ?_; (have h := Rd.of_own HO1.out; rw [← HF.out] at h; exact h.mono fun i hi => hi.2); rintro e w2 ⟨a1, rfl, ha1, hp1, hx2⟩; have s2 := s1.ext hx2; have HPA := Lib.hid hp1; clear hp1))
  all_goals
    go_wp2_with fail
    go_ret2
    have hs1 := s1.size
    have hs2 := s2.size
    exact ⟨a1, a2, rfl, Nat.le_trans hs1 ha1, Nat.le_trans hs2 ha2, HP1.out a1 w2 w3 (s2.mono fun i _ hi => .inl hi) HPA.out (hx3.st _), HPB.out, s3.mono fun i _ hi => .inl hi⟩
theorem pairE_both {nr : Nat} (hL : w.ownsRow base 64 7 (.slice sl.a nl sl.c) nl ls) (hR : w.ownsRow base 64 7 (.slice sr.a nr sr.c) nr rs) (hb : base ≤ w.heap.size)
    (hr1 : ∀ u ∈ rs, u.oneCell' = true) (h4 : nl ≤ 4) (r4 : nr ≤ 4)
    (hB1 : ∀ (W : World) (s : Sl), St (RowsE sl sr) w W → Rd W (Lt W.heap.size) 7 s (nl + nr) (ls ++ rs) → Calls Tryz.prog 106 #[.slice s.a (nl + nr) s.c] W (BPostE P1 W)) :
    Calls Tryz.prog 163 #[.slice sl.a nl sl.c, .slice sr.a nr sr.c, .func (.func 106) #[] #[]] w fun e w' => ∃ a, e = .returned (.tuple #[.pointer (some ⟨a, 0, none⟩), .pointer none]) ∧ w.heap.size ≤ a ∧ P1 a w' ∧ St (RowsE sl sr) w w' := by
  obtain ⟨i0, hi, hz0, hz1, hz2⟩ := info_parts Tryz.infoEntry
  have hn4 : ¬ (4 : Int) < (nl : Int) := by omega
  have hr4 : ¬ (4 : Int) < (nr : Int) := by omega
  have h63 : nl + nr ≤ maxLen := by unfold maxLen; omega
  have hby : (nl + nr) * 104 ≤ 140737488355328 := by omega
  have HB1 := Lib.hid hB1
  have HR := Lib.hid (Rd.of_own hR)
  have HL := Lib.hid hL
  have H1 := Lib.hid hr1
  clear hB1 hR hL hr1
  go_enter Tryz.func163, Tryz.ntmps163
  go_wp2_with (at_builtin; refine wpList_append_x _ rfl (.tmp 47) (.tmp 48) 48 rfl base 64 i0 _ 7 104 Tryz.underlying48 hi hz0 hz1 hz2 rfl (by decide) sl nl ls rfl HL.out (In base w.heap.size) sr nr rs rfl HR.out H1.out h63 hby hb ?_; intro sx w1 hown1 hwr1 hsx)
  have s1 : St (fun b => sl.row = some b) w w1 := hwr1.st fun i hi => hi
  refine (HB1.out w1 sx (s1.mono fun i _ hi => .inl hi) ((Rd.of_own hown1).mono fun i hi => hi.2)).mono ?_
  rintro e w2 ⟨a1, rfl, ha1, hp1, hx2⟩
  have HP := Lib.hid hp1
  clear hp1 hown1 hwr1 hsx
  go_wp2_with fail
  go_ret2
  exact ⟨a1, rfl, Nat.le_trans s1.size ha1, HP.out, (s1.ext hx2).mono fun i _ hi => .inl hi⟩
end
end Go.Proofs.YtechahocffcbpaaGreatDoor
