/- tree.without, Tree.Delete. -/
import Derived.Test.YtpapoalgocmlaaaMend2
import Derived.Test.YtpapoalgocmlaaaGather
namespace Go.Proofs.Ytpapoalgocmlaaa
open Go.RowKit
set_option linter.unusedVariables false
set_option linter.unusedSimpArgs false

/-- What without makes of a leaf, or of none. -/
def WoPost0 (nv : Value) (es : List Ent) (k : ByteArray) (w : World) (e : Ending) (w' : World) : Prop :=
  Ext w w' ∧ ((getE es k = none ∧ e = .returned (.tuple #[nv, .bool false])) ∨
    ((getE es k).isSome = true ∧ ∃ u : PT 0, e = .returned (.tuple #[ptr 0 u, .bool true]) ∧ u.2 = delE es k ∧ w.heap.size ≤ u.1 ∧ IsN w' (In w.heap.size w'.heap.size) 0 u))
theorem place_get {es : List Ent} (hs : Sorted es) (k : ByteArray) : decide ((es[posE es k]?).map Prod.fst = some k) = (getE es k).isSome := by
  rw [getE_pos hs]
  cases hx : es[posE es k]? with
  | none => simp
  | some e => by_cases hk : e.1 = k <;> simp [hk]

set_option maxRecDepth 100000 in
set_option maxHeartbeats 1000000 in
theorem without_leaf {w : World} {nv : Value} {es : List Ent} (hp : ∃ p, nv = .pointer p) (hh : Calls Try.prog 67 #[nv] w fun e w' => e = .returned (.int .i64 0) ∧ w = w') (he : Calls Try.prog 117 #[nv] w (EntriesPost es w))
    (hs : Sorted es) (h8 : es.length ≤ 8) (k : ByteArray) : Calls Try.prog 121 #[nv, .string k] w (WoPost0 nv es k w) := by
  obtain ⟨pp, rfl⟩ := hp
  have HS := Lib.hid hs
  clear hs
  go_enter Try.func121, Try.ntmps121
  go_wp2_with fail
  refine hh.mono ?_
  rintro e w1 ⟨rfl, rfl⟩
  go_wp2_with fail
  refine he.mono ?_
  intro e w1 hp
  obtain ⟨s, xs, rfl, hxs, ho, hx1⟩ := hp
  have hpl := place_any (w := w1) (s := s) (xs := xs) (ho.es.mono fun i hi => hi.2) k (by rw [hxs]; exact HS.out)
  rw [hxs] at hpl
  have hxl : xs.length = es.length := by rw [← hxs, List.length_map]
  have HXS := Lib.hid hxs
  have HO := Lib.hid ho
  have HX1 := Lib.hid hx1
  have hl8 : xs.length ≤ 8 := by omega
  have HXL := Lib.hid hxl
  obtain ⟨p, hp⟩ : ∃ p, posE es k = p := ⟨_, rfl⟩
  unfold PlacePost at hpl
  rw [place_get HS.out, hp] at hpl
  have HP := Lib.hid hp
  clear hxs ho hx1 he hh hxl hp
  cases hg : getE es k with
  | none =>
    rw [hg] at hpl
    have HG := Lib.hid hg
    clear hg
    go_wp2_with fail
    refine hpl.mono ?_
    rintro e w2 ⟨rfl, hx2⟩
    have HX2 := Lib.hid (HX1.out.trans hx2)
    clear hpl hx2
    go_wp2_with fail
    go_ret2
    exact ⟨HX2.out, .inl ⟨HG.out, rfl⟩⟩
  | some v =>
    rw [hg] at hpl
    have hpn : p < xs.length := by
      have h1 := getE_pos HS.out k
      rw [hg, HP.out] at h1
      rcases Nat.lt_or_ge p xs.length with h | h
      · exact h
      · rw [List.getElem?_eq_none (by rw [← HXL.out]; exact h)] at h1; cases h1
    have hde : delE es k = es.take p ++ es.drop (p + 1) := by
      have h1 := delE_pos HS.out k
      have h2 := place_get HS.out k
      rw [hg] at h2
      rw [if_pos (of_decide_eq_true h2), HP.out] at h1
      exact h1
    have HG := Lib.hid hg
    have HDE := Lib.hid hde
    have hw1 : IntKind.i64.wrap ((p : Int) + 1) = (p : Int) + 1 := by rw [IntKind.wrap_i64]; omega
    clear hg hde
    go_wp2_with fail
    refine hpl.mono ?_
    rintro e w2 ⟨rfl, hx2⟩
    have ho2 := HO.out.ext hx2
    have hd := delE_any (i := p) ho2.own (by omega) hpn (flatE_one xs)
    have HO2 := Lib.hid ho2
    have HX2 := Lib.hid (HX1.out.trans hx2)
    clear hpl hx2 ho2
    go_wp2_with fail
    refine hd.mono ?_
    rintro e w3 ⟨rfl, hown, hwr⟩
    have hrow : ∀ i, s.row = some i → w.heap.size ≤ i ∧ i < w2.heap.size := fun i hi => own_row HO2.out.own hi
    have e1 : (flatE xs).take (p * 7) ++ (flatE xs).drop ((p + 1) * 7) = flatE (xs.take p ++ xs.drop (p + 1)) := by rw [flatE_take, flatE_drop, flatE_app]
    rw [e1] at hown
    have hX3 : Ext w w3 := HX2.out.wr hwr (fun i hi => (hrow i hi).1)
    have hes : ES w3 (Lt w3.heap.size) s (xs.take p ++ xs.drop (p + 1)) := rd_es (by rw [List.length_append, List.length_take, List.length_drop]; omega) ((Rd.of_own hown).mono fun i hi => hi.2)
      (fun x hx => by
        have hxm : x ∈ xs := by
          rcases List.mem_append.1 hx with hx | hx
          · exact List.mem_of_mem_take hx
          · exact List.mem_of_mem_drop hx
        exact ⟨((HO2.out.vals x hxm).1.agree (hwr.agree (fun i hi => hi.1.2) (fun k hk h => h.2 hk))).mono fun i hi => Nat.lt_of_lt_of_le hi.1.2 hwr.grown.size, (HO2.out.vals x hxm).2⟩) (by rw [List.length_append, List.length_take, List.length_drop]; omega)
    have hme : (xs.take p ++ xs.drop (p + 1)).map LE.ent = delE es k := by rw [List.map_append, List.map_take, List.map_drop, HXS.out, HDE.out]
    have hlf := tleaf_any (n := xs.length - 1) hes (by rw [List.length_append, List.length_take, List.length_drop]; omega) (risingN_of (by rw [hme]; exact delE_sorted HS.out k)) (by rw [List.length_append, List.length_take, List.length_drop]; omega)
    rw [hme] at hlf
    have HX3 := Lib.hid hX3
    clear hd hown hwr hrow e1 hX3 hes hme
    go_wp2_with fail
    refine hlf.mono ?_
    rintro e w4 ⟨u, rfl, hu, hua, hun, hx4⟩
    have HU := Lib.hid hun
    clear hlf hun
    go_wp2_with fail
    go_ret2
    exact ⟨HX3.out.trans hx4, .inr ⟨by rw [HG.out]; rfl, u, rfl, hu, Nat.le_trans HX3.out.size hua, HU.out.mono fun i hi => ⟨Nat.le_trans HX3.out.size hi.1, hi.2⟩⟩⟩

/-- What without makes of a node that has enough (its height stays). -/
def WoPost (F : Nat → Prop) (h : Nat) (t : PT h) (k : ByteArray) (w : World) (e : Ending) (w' : World) : Prop :=
  Ext w w' ∧ ((getE (ents h t) k = none ∧ e = .returned (.tuple #[ptr h t, .bool false])) ∨
    ((getE (ents h t) k).isSome = true ∧ ∃ u : PT h, e = .returned (.tuple #[ptr h u, .bool true]) ∧ DelR w.heap.size k h t u ∧ IsN w' (Up F w w') h u))
/-- What it makes of an inner node: kids; one lone kid is the node itself. -/
def WoPostS (F : Nat → Prop) (h : Nat) (t : PT (h + 1)) (k : ByteArray) (w : World) (e : Ending) (w' : World) : Prop :=
  Ext w w' ∧ ((getE (ents (h + 1) t) k = none ∧ e = .returned (.tuple #[ptr (h + 1) t, .bool false])) ∨
    ((getE (ents (h + 1) t) k).isSome = true ∧ ∃ ks' : List (PT h), DelK w.heap.size k h (DelR w.heap.size k h) t.2 ks' ∧
      ((∃ u, ks' = [u] ∧ e = .returned (.tuple #[ptr h u, .bool true]) ∧ IsN w' (Up F w w') h u) ∨
       (2 ≤ ks'.length ∧ ∃ c : PT (h + 1), c.2 = ks' ∧ w.heap.size ≤ addr (h + 1) c ∧ e = .returned (.tuple #[ptr (h + 1) c, .bool true]) ∧ IsN w' (Up F w w') (h + 1) c))))

/-- What inner makes of the kids that are left. -/
def InnPost (F : Nat → Prop) (h : Nat) (ks' : List (PT h)) (w : World) (e : Ending) (w' : World) : Prop :=
  Ext w w' ∧ ((∃ u, ks' = [u] ∧ e = .returned (ptr h u) ∧ IsN w' (Up F w w') h u) ∨ (2 ≤ ks'.length ∧ ∃ c : PT (h + 1), c.2 = ks' ∧ w.heap.size ≤ addr (h + 1) c ∧ e = .returned (ptr (h + 1) c) ∧ IsN w' (Up F w w') (h + 1) c))
theorem without_end {w w6 : World} {F : Nat → Prop} {h : Nat} {k : ByteArray} {t : PT (h + 1)} {s6 : Sl} {ks' : List (PT h)} (hF : ∀ b, F b → b < w.heap.size) (ok : OkT (h + 1) t) (hs : Sorted (ents (h + 1) t)) (hc : (ents (h + 1) t).length ≤ 1000000) (hh : h + 1 < 1000000) (hg : (getE (ents (h + 1) t) k).isSome = true)
    (hX : Ext w w6) (hown : w6.ownsRow w.heap.size 28 1 (.slice s6.a ks'.length s6.c) ks'.length (ptrs h ks')) (hD : DelK w.heap.size k h (DelR w.heap.size k h) t.2 ks') (hI : ∀ u ∈ ks', IsN w6 (Up F w w6) h u) :
    Calls Try.prog 92 #[.slice s6.a ks'.length s6.c] w6 fun e w' => InnPost F h ks' w e w' := by
  obtain ⟨h1, h2, h3⟩ := delK_root hD ok hs hg
  have ok2 := ok.1
  have ok8 := ok.2.1
  by_cases hone : ks'.length = 1
  · obtain ⟨u, rfl⟩ := List.length_eq_one_iff.1 hone
    refine (tinner_one (s := s6) (k := u) (Rd.of_own hown)).mono ?_
    rintro e w' ⟨rfl, rfl⟩
    exact ⟨hX, .inl ⟨u, rfl, rfl, hI u (List.mem_singleton.2 rfl)⟩⟩
  · have hfl := hD.ents hs (kids_pos ok) (by omega) (fun x y hx hr => hr.ents (ok.2.2 x hx).1 (kid_sorted hs x hx))
    have hso : Sorted (ks'.flatMap (ents h)) := by rw [hfl]; exact delE_sorted hs k
    have hpos : ∀ x ∈ ks', 0 < (ents h x).length := fun x hx => ents_pos h x (h1 x hx).1 (by have := (h1 x hx).2; omega)
    have hk : Kids w6 (Up F w w6) h ks' := ⟨fun b hb => hb.elim (fun h => Nat.lt_of_lt_of_le (hF b h) hX.size) fun h => h.2, hI, rising_of hso hpos, hpos, fun x hx => by have := size_le8 (h1 x hx).1; omega, by
      unfold cnt
      rw [hfl]
      have h5 : (delE (t.2.flatMap (ents h)) k).length ≤ (t.2.flatMap (ents h)).length := (delE_sublist _ k).length_le
      have h6 : (t.2.flatMap (ents h)).length ≤ 1000000 := hc
      omega, by omega⟩
    refine (tinner_any ((Rd.of_own hown).mono fun i hi => hi.2) rfl hk (by omega) (by omega)).mono ?_
    rintro e w' ⟨c, rfl, hc2, hca, hcn, hx⟩
    refine ⟨hX.trans hx, .inr ⟨by omega, c, hc2, Nat.le_trans hX.size hca, rfl, hcn.mono fun i hi => ?_⟩⟩
    rcases hi with (hi | hi) | hi
    · exact .inl hi
    · exact .inr ⟨hi.1, Nat.lt_of_lt_of_le hi.2 hx.size⟩
    · exact .inr ⟨Nat.le_trans hX.size hi.1, hi.2⟩
set_option maxRecDepth 100000 in
set_option maxHeartbeats 2000000 in
theorem without_succ {h : Nat} {k : ByteArray}
    (ih : ∀ (w : World) (F : Nat → Prop) (t : PT h), (∀ b, F b → b < w.heap.size) → IsN w F h t → OkT h t → 4 ≤ size h t → Sorted (ents h t) → (ents h t).length ≤ 1000000 → Calls Try.prog 121 #[ptr h t, .string k] w (WoPost F h t k w))
    {w : World} {F : Nat → Prop} {t : PT (h + 1)} (hF : ∀ b, F b → b < w.heap.size) (hn : IsN w F (h + 1) t) (ok : OkT (h + 1) t) (hs : Sorted (ents (h + 1) t)) (hc : (ents (h + 1) t).length ≤ 1000000) :
    Calls Try.prog 121 #[ptr (h + 1) t, .string k] w (WoPostS F h t k w) := by
  have hpos := kids_pos ok
  have hh : h + 1 < 1000000 := Nat.lt_of_lt_of_le (height_lt (h + 1) t ok (by have := ok.1; show 1 ≤ t.2.length; omega)) hc
  obtain ⟨kid, hkid, hA, hC⟩ := which_split (h := h) (ks := t.2) hs hpos (by have := ok.1; omega) k
  have hkm' := List.mem_of_getElem? hkid
  have hil := (List.getElem?_eq_some_iff.1 hkid).1
  have hlen8 := ok.2.1
  have hlen2 := ok.1
  have hks : ∀ x ∈ t.2, IsN w F h x := hn.2.choose_spec.2.2
  have hkc : (ents h kid).length ≤ 1000000 := Nat.le_trans (by
    show _ ≤ (t.2.flatMap (ents h)).length
    rw [take_mid hkid]; simp only [List.flatMap_append, List.flatMap_cons, List.length_append]; omega) hc
  have hge : getE (ents (h + 1) t) k = getE (ents h kid) k := getE_kid hkid hA hC
  have hih : ∀ W, Ext w W → Calls Try.prog 121 #[ptr h kid, .string k] W (WoPost F h kid k W) := fun W hW =>
    ih W F kid (fun b hb => Nat.lt_of_lt_of_le (hF b hb) hW.size) ((hks kid hkm').agree (hW.agree hF)) (ok.2.2 kid hkm').1 (ok.2.2 kid hkm').2 (kid_sorted hs kid hkm') hkc
  have hdr : ∀ B u, (getE (ents (h + 1) t) k).isSome = true → DelR B k h kid u → OkT h u ∧ size h kid ≤ size h u + 1 ∧ size h u ≤ size h kid := fun B u hg hr => hr.ok (ok.2.2 kid hkm').1 (ok.2.2 kid hkm').2 (kid_sorted hs kid hkm') (by rw [← hge]; exact hg)
  have HF := Lib.hid hF
  have HN := Lib.hid hn
  have HS := Lib.hid hs
  have HP := Lib.hid hpos
  have HIH := Lib.hid hih
  have HKS := Lib.hid hks
  have HKID := Lib.hid hkid
  have HGE := Lib.hid hge
  have HOK := Lib.hid ok
  have HC := Lib.hid hc
  have HDR := Lib.hid hdr
  have hnz : (((h : Int) + 1) == 0) = false := beq_eq_false_iff_ne.2 (by omega)
  clear hF hn ok hs hc hpos hih hks hkid hA hC ih hkc hge hdr
  go_enter Try.func121, Try.ntmps121
  go_wp2_with fail
  refine (height_any HN.out).mono ?_
  rintro e w1 ⟨rfl, rfl⟩
  have hkc := kids_any HN.out (by omega)
  go_wp2_with fail
  refine hkc.mono ?_
  rintro e w1 ⟨s', rfl, hown, hx1⟩
  have hrd : Rd w1 (Lt w1.heap.size) 1 s' t.2.length (ptrs h t.2) := (Rd.of_own hown).mono fun i hi => hi.2
  have hwh := which_any hrd (fun x hx => (HKS.out x hx).agree (hx1.agree HF.out)) (fun b hb => Nat.lt_of_lt_of_le (HF.out b hb) hx1.size) HP.out k HS.out (by omega)
  obtain ⟨i, hi⟩ : ∃ i, whichK h t.2 k = i := ⟨_, rfl⟩
  rw [hi] at hwh hil
  have HI := Lib.hid hi
  have HWH := Lib.hid hwh
  have HO1 := Lib.hid hown
  have HX1 := Lib.hid hx1
  clear hi hwh hown hrd hkc hx1
  go_wp2_with fail
  refine HWH.out.mono ?_
  rintro e w2 ⟨rfl, hx2⟩
  have hX2 := HX1.out.trans hx2
  obtain ⟨g, cap, rfl, hbg, hnc, hcm, hfil⟩ := own_block HO1.out (by omega)
  have ho2 : w2.ownsRow w.heap.size 28 1 (.slice (some ⟨g, 0, none⟩) t.2.length cap) t.2.length (ptrs h t.2) := own_agree (s := ⟨some ⟨g, 0, none⟩, cap⟩) HO1.out (hx2.agree (F := Lt w1.heap.size) fun _ h => h) fun b hb => (own_row HO1.out hb).2
  have hkp : w2.cell? ⟨g, i, none⟩ = some (ptr h kid) := by
    have := ho2.cells (g := g) rfl i (ptr h kid) (by rw [ptrs, List.getElem?_map, ← HI.out, HKID.out]; rfl)
    rwa [add_at, Nat.zero_add] at this
  have hil' : (i : Int) < (t.2.length : Int) := by omega
  have hg2 : g < w2.heap.size := (own_row (s := ⟨some ⟨g, 0, none⟩, cap⟩) ho2 rfl).2
  have hih := HIH.out w2 hX2
  have HO2 := Lib.hid ho2
  have HX2 := Lib.hid hX2
  clear hx2 ho2 hX2 hfil
  go_wp2_with fail
  refine hih.mono ?_
  rintro e w3 ⟨hx3, (⟨hg, rfl⟩ | ⟨hg, u, rfl, hdu, hnu⟩)⟩
  · have HX3 := Lib.hid (HX2.out.trans hx3)
    have HG := Lib.hid hg
    clear hx3 hg hih
    go_wp2_with fail
    go_ret2
    exact ⟨HX3.out, .inl ⟨by rw [HGE.out]; exact HG.out, rfl⟩⟩
  · have hgt : (getE (ents (h + 1) t) k).isSome = true := by rw [HGE.out]; exact hg
    obtain ⟨ou, su1, su2⟩ := HDR.out _ u hgt hdu
    have hsz3 : 3 ≤ size h u := by have := (HOK.out.2.2 kid (List.mem_of_getElem? HKID.out)).2; omega
    have hsz8 : size h u ≤ 8 := size_le8 ou
    have hx3s := hx3.size
    have hx2s := HX2.out.size
    have hgF : ∀ b, Up F w2 w3 b → b ≠ g := fun b hb e => by
      subst e
      rcases hb with hb | hb
      · have := HF.out _ hb; have hbg : w.heap.size ≤ b := hbg; omega
      · omega
    have hown3 : w3.ownsRow w.heap.size 28 1 (.slice (some ⟨g, 0, none⟩) t.2.length cap) t.2.length (ptrs h t.2) := own_agree (s := ⟨some ⟨g, 0, none⟩, cap⟩) HO2.out (hx3.agree (F := Lt w2.heap.size) fun _ h => h) fun b hb => (own_row (s := ⟨some ⟨g, 0, none⟩, cap⟩) HO2.out hb).2
    have hown4 := own_set hown3 (i := i) (by omega) (ptr h u)
    have e0 : (ptrs h t.2).set i (ptr h u) = ptrs h (t.2.set i u) := by rw [ptrs, ptrs, List.map_set]
    rw [e0] at hown4
    have kc3 : w3.cell? ⟨g, i, none⟩ = some (ptr h kid) := (hx3.cell hg2).trans hkp
    have fz3 : ∀ o, w3.frozen? ⟨g, o, none⟩ = false := by
      obtain ⟨g', cap', e1, -, -, -, hfl⟩ := own_block (s := ⟨some ⟨g, 0, none⟩, cap⟩) hown3 (by omega)
      obtain ⟨rfl, rfl⟩ : g = g' ∧ cap = cap' := by simpa using e1
      exact hfl.frozen
    have hX4 := (HX2.out.trans hx3).setCell (p := ⟨g, i, none⟩) hbg (ptr h u)
    have hag4 : Agree (Up F w2 w3) w3 (w3.setCell ⟨g, i, none⟩ (ptr h u)) := Agree.setCell w3 ⟨g, i, none⟩ _ (fun h => hgF g h rfl)
    have hI4 : ∀ x ∈ t.2.set i u, IsN (w3.setCell ⟨g, i, none⟩ (ptr h u)) (Up F w2 w3) h x := fun x hx => by
      rcases List.mem_or_eq_of_mem_set hx with hx | rfl
      · exact (((HKS.out x hx).agree ((HX2.out.trans hx3).agree HF.out)).mono fun b hb => .inl hb).agree hag4
      · exact hnu.agree hag4
    have hu4 := hI4 u (List.mem_set (by omega) u)
    have hsc := size_any hu4 (by omega)
    have hz4 : (w3.setCell ⟨g, i, none⟩ (ptr h u)).heap.size = w3.heap.size := by simp
    have hdu' := hdu.mono hx2s
    have hkid := HKID.out
    rw [HI.out] at hkid
    have hDK : ∀ ks', ((4 ≤ size h u ∧ ks' = t.2.set i u) ∨ (size h u < 4 ∧ Mend w.heap.size h (t.2.set i u) i ks')) → DelK w.heap.size k h (DelR w.heap.size k h) t.2 ks' := fun ks' hks => by
      refine ⟨kid, u, HKID.out, hdu', ?_⟩
      rw [HI.out]
      exact hks
    have heq : (t.2.set i u).flatMap (ents h) = delE (t.2.flatMap (ents h)) k := by
      obtain ⟨kid2, hk3, hA, hC⟩ := which_split (h := h) (ks := t.2) HS.out HP.out (by omega) k
      rw [HKID.out] at hk3
      simp only [Option.some.injEq] at hk3
      subst hk3
      rw [HI.out] at hA hC
      rw [set_mid hkid]
      simp only [List.flatMap_append, List.flatMap_cons]
      have e1 := hdu.ents (HOK.out.2.2 kid (List.mem_of_getElem? hkid)).1 (kid_sorted HS.out kid (List.mem_of_getElem? hkid))
      conv => rhs; rw [take_mid hkid]
      rw [List.flatMap_append, List.flatMap_cons, delE_app hA, delE_stop hC, e1]
    have hso : Sorted ((t.2.set i u).flatMap (ents h)) := by
      rw [heq]
      exact delE_sorted HS.out k
    have hfl : ((t.2.set i u).flatMap (ents h)).length ≤ 1000000 := by
      rw [heq]
      exact Nat.le_trans (delE_sublist _ k).length_le HC.out
    have HFL := Lib.hid hfl
    have HU := Lib.hid hsc
    have HDK := Lib.hid hDK
    have HX4 := Lib.hid hX4
    have HO4 := Lib.hid hown4
    have HI4 := Lib.hid hI4
    have HSO := Lib.hid hso
    have HGT := Lib.hid hgt
    have HOU := Lib.hid ou
    have HGF := Lib.hid hgF
    have hgb : g < w3.heap.size := by omega
    clear hih hg hdu hnu hgt ou hown3 hown4 e0 hX4 hag4 hI4 hu4 hsc hdu' hkid hDK heq hso hfl hx3 hgF
    go_wp2_with fail
    generalize hW4 : World.setCell _ _ _ = W4 at *
    refine HU.out.mono ?_
    rintro e w5 ⟨rfl, q, rfl⟩
    have hX5 := HX4.out.drewN q
    have hst5 : Agree (Up F w2 w3) W4 (W4.drewN q) := Agree.drewN W4 q
    have ho5 : (W4.drewN q).ownsRow w.heap.size 28 1 (.slice (some ⟨g, 0, none⟩) t.2.length cap) t.2.length (ptrs h (t.2.set i u)) := HO4.out
    have hz5 : (W4.drewN q).heap.size = w3.heap.size := hz4
    have hI5 : ∀ x ∈ t.2.set i u, IsN (W4.drewN q) (Up F w2 w3) h x := fun x hx => (HI4.out x hx).agree hst5
    generalize W4.drewN q = W5 at *
    have HX5 := Lib.hid hX5
    have HO5 := Lib.hid ho5
    have HI5 := Lib.hid hI5
    have HZ5 := Lib.hid hz5
    have hlen : (t.2.set i u).length = t.2.length := by rw [List.length_set]
    clear hX5 hst5 ho5 hI5 hz5 kc3 fz3 hz4 hW4
    by_cases h4 : size h u < 4
    · have h4' : (size h u : Int) < 4 := by omega
      obtain ⟨l, hl⟩ : ∃ l, (t.2.set i u)[i - 1]? = some l := ⟨_, List.getElem?_eq_getElem (by omega)⟩
      obtain ⟨r, hr⟩ : ∃ r, (t.2.set i u)[i - 1 + 1]? = some r := ⟨_, List.getElem?_eq_getElem (by omega)⟩
      have hoth : ∀ x ∈ t.2.set i u, OkT h x ∧ 3 ≤ size h x := fun x hx => by
        rcases List.mem_or_eq_of_mem_set hx with hx | rfl
        · exact ⟨(HOK.out.2.2 x hx).1, by have := (HOK.out.2.2 x hx).2; omega⟩
        · exact ⟨HOU.out, hsz3⟩
      have hsum : size h l + size h r ≤ 11 := by
        have h8 : ∀ x ∈ t.2.set i u, size h x ≤ 8 := fun x hx => size_le8 (hoth x hx).1
        have hl8 := h8 l (List.mem_of_getElem? hl)
        have hr8 := h8 r (List.mem_of_getElem? hr)
        have hgi : (t.2.set i u)[i]? = some u := by rw [List.getElem?_set_self (by omega)]
        by_cases h0 : i = 0
        · subst h0
          rw [hgi] at hl
          simp only [Option.some.injEq] at hl
          subst hl; omega
        · rw [show i - 1 + 1 = i from by omega, hgi] at hr
          simp only [Option.some.injEq] at hr
          subst hr; omega
      have hmend := mend_any (w := W5) (F := Up F w2 w3) (base := w.heap.size) (s := ⟨some ⟨g, 0, none⟩, cap⟩) (i := i) (ks := t.2.set i u) (l := l) (r := r)
        ⟨by rw [hlen]; exact HO5.out, HX5.out.size, fun b hb => ⟨by rw [HZ5.out]; exact hb.elim (fun h => by have := HF.out b h; have := HX2.out.size; omega) fun h => h.2, fun e => by simp [Sl.row] at e; exact HGF.out b hb e.symm⟩, HI5.out, hoth, hl, hr, hsum, HSO.out, by
          have := HFL.out
          omega, by omega, by omega⟩
      rw [hlen] at hmend
      have HM := Lib.hid hmend
      clear hl hr hoth hsum hmend
      go_wp2_with fail
      refine HM.out.mono ?_
      rintro e w6 ⟨s6, ks6, rfl, hown6, hm6, hI6, hst6⟩
      have hX6 : Ext w w6 := HX5.out.step hst6 (fun b hb => by simp only [Sl.row, Option.map_some, Option.some.injEq] at hb; have hbg : w.heap.size ≤ g := hbg; omega)
      have D := HDK.out ks6 (.inr ⟨h4, hm6.mono HX5.out.size⟩)
      have hIw : ∀ x ∈ ks6, IsN w6 (Up F w w6) h x := fun x hx => (hI6 x hx).mono fun b hb => by
        have hz := HZ5.out
        have hz6 := hst6.size
        rcases hb with (hb | hb) | hb
        · exact .inl hb
        · exact .inr ⟨by omega, by omega⟩
        · exact .inr ⟨by omega, hb.2⟩
      have hend := without_end HF.out HOK.out HS.out HC.out hh HGT.out hX6 hown6 D hIw
      have HD := Lib.hid D
      have HE := Lib.hid hend
      clear hown6 hm6 hI6 hst6 hX6 D hIw hend
      go_wp2_with fail
      refine HE.out.mono ?_
      rintro e w7 ⟨hx, (⟨v, hv, rfl, hnv⟩ | ⟨hv, c, hcc, hca, rfl, hcn⟩)⟩
      · have H1 := Lib.hid hx
        have H2 := Lib.hid hnv
        clear hx hnv
        go_wp2_with fail
        go_ret2
        exact ⟨H1.out, .inr ⟨HGT.out, ks6, HD.out, .inl ⟨v, hv, rfl, H2.out⟩⟩⟩
      · have H1 := Lib.hid hx
        have H2 := Lib.hid hcn
        clear hx hcn
        go_wp2_with fail
        go_ret2
        exact ⟨H1.out, .inr ⟨HGT.out, ks6, HD.out, .inr ⟨hv, c, hcc, hca, rfl, H2.out⟩⟩⟩
    · have h4' : ¬ (size h u : Int) < 4 := by omega
      have D := HDK.out _ (.inl ⟨by omega, rfl⟩)
      have hIw : ∀ x ∈ t.2.set i u, IsN W5 (Up F w W5) h x := fun x hx => (HI5.out x hx).mono fun b hb => by
        have hz := HZ5.out
        rcases hb with hb | hb
        · exact .inl hb
        · exact .inr ⟨by omega, by omega⟩
      have hend := without_end (s6 := ⟨some ⟨g, 0, none⟩, cap⟩) HF.out HOK.out HS.out HC.out hh HGT.out HX5.out (by rw [hlen]; exact HO5.out) D hIw
      rw [hlen] at hend
      have HD := Lib.hid D
      have HE := Lib.hid hend
      clear D hIw hend
      go_wp2_with fail
      refine HE.out.mono ?_
      rintro e w7 ⟨hx, (⟨v, hv, rfl, hnv⟩ | ⟨hv, c, hcc, hca, rfl, hcn⟩)⟩
      · have H1 := Lib.hid hx
        have H2 := Lib.hid hnv
        clear hx hnv
        go_wp2_with fail
        go_ret2
        exact ⟨H1.out, .inr ⟨HGT.out, _, HD.out, .inl ⟨v, hv, rfl, H2.out⟩⟩⟩
      · have H1 := Lib.hid hx
        have H2 := Lib.hid hcn
        clear hx hcn
        go_wp2_with fail
        go_ret2
        exact ⟨H1.out, .inr ⟨HGT.out, _, HD.out, .inr ⟨hv, c, hcc, hca, rfl, H2.out⟩⟩⟩
end Go.Proofs.Ytpapoalgocmlaaa
