/- tree.get, Tree.Get: the value that a key has. -/
import Derived.Test.YtpapoalgocmlaaaPut
import Derived.Test.YtpapoalgocmlaaaTrees
import Derived.Test.YtpapoalgocmlaaaDelP
namespace Go.Proofs.Ytpapoalgocmlaaa
open Go.RowKit
set_option linter.unusedVariables false
set_option linter.unusedSimpArgs false

theorem pos_split (es : List Ent) (k : ByteArray) (hs : Sorted es) : (∀ e ∈ es.take (posE es k), klt e.1 k = true) ∧ (∀ e ∈ es.drop (posE es k), klt e.1 k = false) := by
  have e1 : es.take (posE es k) = es.takeWhile fun e => klt e.1 k := (List.prefix_iff_eq_take.1 (List.takeWhile_prefix (l := es) (fun e : Ent => klt e.1 k))).symm
  have e2 : es.drop (posE es k) = es.dropWhile fun e => klt e.1 k := by
    have h1 := List.take_append_drop (posE es k) es
    rw [e1] at h1
    have h2 := List.takeWhile_append_dropWhile (p := fun e : Ent => klt e.1 k) (l := es)
    exact List.append_cancel_left (h1.trans h2.symm)
  refine ⟨fun e he => ?_, fun e he => ?_⟩
  · rw [e1] at he
    exact List.all_eq_true.1 (List.all_takeWhile (l := es) (p := fun e : Ent => klt e.1 k)) e he
  · have hsd : Sorted (es.drop (posE es k)) := List.Pairwise.sublist (List.drop_sublist _ _) hs
    rw [e2] at he hsd
    cases hd : es.dropWhile fun e => klt e.1 k with
    | nil => rw [hd] at he; cases he
    | cons x xs =>
      rw [hd] at he hsd
      have hx : klt x.1 k = false := by
        have := List.head?_dropWhile_not (fun e : Ent => klt e.1 k) es
        rw [hd] at this
        simpa using this
      rcases List.mem_cons.1 he with rfl | he
      · exact hx
      · have := (List.pairwise_cons.1 hsd).1 e he
        cases hc : klt e.1 k
        · rfl
        · rw [klt_trans this hc] at hx; cases hx
theorem getE_pos {es : List Ent} (hs : Sorted es) (k : ByteArray) : getE es k = (es[posE es k]?).bind fun e => if e.1 = k then some e.2 else none := by
  obtain ⟨hA, hB⟩ := pos_split es k hs
  have hsd : Sorted (es.drop (posE es k)) := List.Pairwise.sublist (List.drop_sublist _ _) hs
  conv => lhs; rw [← List.take_append_drop (posE es k) es]
  rw [getE_app hA, ← Nat.add_zero (posE es k), ← List.getElem?_drop, Nat.add_zero]
  cases hd : es.drop (posE es k) with
  | nil => rfl
  | cons x xs =>
    rw [hd] at hsd hB
    simp only [List.getElem?_cons_zero, Option.bind_some, getE]
    by_cases hx : x.1 = k
    · simp [hx]
    · simp only [hx, if_false]
      refine getE_none fun e he => ?_
      have h1 := klt_of_not (hB x (List.mem_cons_self ..)) hx
      have h2 := klt_trans h1 ((List.pairwise_cons.1 hsd).1 e he)
      rintro rfl
      rw [klt_irrefl] at h2; cases h2
theorem delE_pos {es : List Ent} (hs : Sorted es) (k : ByteArray) : delE es k = if (es[posE es k]?).map Prod.fst = some k then es.take (posE es k) ++ es.drop (posE es k + 1) else es := by
  obtain ⟨hA, hB⟩ := pos_split es k hs
  conv => lhs; rw [← List.take_append_drop (posE es k) es]
  rw [delE_app hA, delE_at hB, List.head?_drop, List.tail_drop]
  split
  · rfl
  · rw [List.take_append_drop]

/-- What a look-up hands back: the value (a zero one, if there is none), and is there one? -/
def GetPost (o : Option Val) (w : World) (e : Ending) (w' : World) : Prop :=
  ∃ sl so, e = .returned (.tuple #[aggV (o.getD zeroV) sl so, .bool o.isSome]) ∧ Ext w w' ∧ RV w' (In w.heap.size w'.heap.size) (o.getD zeroV) sl so

set_option maxRecDepth 100000 in
/-- The closure of get. -/
theorem get1_any {W : World} {nv : Value} {b1 b2 : Nat} {k k' : ByteArray} {v : Val} {i : Nat} (h1 : W.cell? ⟨b1, 0, none⟩ = some nv) (h2 : W.cell? ⟨b2, 0, none⟩ = some (.string k))
    (hp : ∃ p, nv = .pointer p) (hc : Calls Try.prog 145 #[nv, .int .i64 i] W (EntryPost k' v W)) :
    Calls Try.prog 144 #[.int .i64 i, .pointer (some ⟨b1, 0, none⟩), .pointer (some ⟨b2, 0, none⟩)] W fun e w' => e = .returned (.bool !(klt k' k)) ∧ Ext W w' := by
  obtain ⟨p, rfl⟩ := hp
  have hb2 := World.block_lt_of_cell? W _ h2
  go_enter Try.func144, Try.ntmps144
  go_wp2_with fail
  refine hc.mono ?_
  rintro e w1 ⟨sl, so, rfl, hx, -⟩
  have q2 := (hx.cell hb2).trans h2
  have l2 : b2 < w1.heap.size := Nat.lt_of_lt_of_le hb2 hx.size
  have HX := Lib.hid hx
  clear hc hx h2
  go_wp2
  go_ret
  exact ⟨rfl, HX.out.alloc _ _⟩

/-- The three blocks of get: its parameters, its result. -/
structure GetS (w : World) (nv : Value) (k : ByteArray) (W : World) : Prop where
  ext : Ext w W
  b0 : Blk W w.heap.size 28 #[nv]
  b1 : Blk W (w.heap.size + 1) 9 #[.string k]
  b2 : Blk W (w.heap.size + 1 + 1) 49 #[.int .i64 0, .bool false, .int .i64 0, .string ByteArray.empty, .slice none 0 0, .slice none 0 0]
theorem GetS.step {w W W' : World} {nv : Value} {k : ByteArray} (h : GetS w nv k W) (he : Ext W W') : GetS w nv k W' := ⟨h.ext.trans he, h.b0.ext he, h.b1.ext he, h.b2.ext he⟩

theorem entry_nil (w : World) (i : Int) : Calls Try.prog 145 #[.pointer none, .int .i64 i] w fun e w' => e = .returned (.tuple #[aggE ByteArray.empty zeroV Sl.none Sl.none, .bool false]) ∧ Ext w w' := by
  go_enter Try.func145, Try.ntmps145
  go_wp2_with fail
  refine bodyPost_ret (v := .tuple #[aggE ByteArray.empty zeroV Sl.none Sl.none, .bool false]) (by simp [results, Try.results145, go_sem]; exact ⟨rfl, rfl, rfl, rfl, rfl, rfl, rfl⟩) rfl ⟨rfl, (Ext.refl w).alloc _ _⟩

set_option maxRecDepth 100000 in
set_option maxHeartbeats 1000000 in
theorem get_leaf {w : World} {nv : Value} {es : List Ent} (hp : ∃ p, nv = .pointer p) (hh : ∀ W, Ext w W → Calls Try.prog 67 #[nv] W fun e w' => e = .returned (.int .i64 0) ∧ W = w')
    (hz : ∀ W, Ext w W → Calls Try.prog 143 #[nv] W fun e w' => e = .returned (.int .i64 es.length) ∧ ∃ q, w' = W.drewN q)
    (he : ∀ W, Ext w W → ∀ (i : Nat) (e : Ent), es[i]? = some e → Calls Try.prog 145 #[nv, .int .i64 i] W (EntryPost e.1 e.2 W))
    (hno : ∀ W, Ext w W → ∀ i : Nat, es.length ≤ i → Calls Try.prog 145 #[nv, .int .i64 i] W fun e w' => e = .returned (.tuple #[aggE ByteArray.empty zeroV Sl.none Sl.none, .bool false]) ∧ Ext W w')
    (hs : Sorted es) (hl : es.length ≤ 1000) (k : ByteArray) : Calls Try.prog 93 #[nv, .string k] w (GetPost (getE es k) w) := by
  have HH := Lib.hid hh
  have HZ := Lib.hid hz
  have HE := Lib.hid he
  have HNO := Lib.hid hno
  have HS := Lib.hid hs
  obtain ⟨pp, rfl⟩ := hp
  clear hh hz he hno hs
  have hsr : ∀ W, GetS w (.pointer pp) k W → Calls Try.prog 142 #[.int .i64 es.length, .func (.func 144) #[] #[.pointer (some ⟨w.heap.size, 0, none⟩), .pointer (some ⟨w.heap.size + 1, 0, none⟩)]] W (SearchPost es.length (fun i => !(klt ((es[i]?.map Prod.fst).getD ByteArray.empty) k)) W) := by
    intro W hW
    refine search_any 144 _ _ es.length _ W (enters_of Try.func144 (by kernel_rfl) rfl) (by omega) ?_ ?_
    · intro i W' hi hW'
      obtain ⟨x, hx⟩ : ∃ x, es[i]? = some x := ⟨_, List.getElem?_eq_getElem hi⟩
      rw [hx]
      have hS := hW.step hW'
      exact get1_any (hS.b0.cell 0) (hS.b1.cell 0) ⟨_, rfl⟩ (HE.out W' hS.ext i x hx)
    · intro i j hij hj hpi
      by_cases hij' : i = j
      · subst hij'; exact hpi
      · obtain ⟨x, hx⟩ : ∃ x, es[i]? = some x := ⟨_, List.getElem?_eq_getElem (by omega)⟩
        obtain ⟨y, hy⟩ : ∃ y, es[j]? = some y := ⟨_, List.getElem?_eq_getElem hj⟩
        have hxy := sorted_lt HS.out (i := i) (j := j) (by omega) hx hy
        rw [hx] at hpi; rw [hy]
        simp only [Option.map_some, Option.getD_some, Bool.not_eq_true'] at hpi ⊢
        cases hyk : klt y.1 k
        · rfl
        · have := klt_trans hxy hyk
          rw [hpi] at this; cases this
  go_enter Try.func93, Try.ntmps93
  go_wp2_with fail
  generalize hW0 : World.alloc _ _ = W0
  obtain ⟨hx0, hz0, hb0, hb1, hb2⟩ := three_blocks w _ _ _ _ _ _ W0 hW0
  have hS0 : GetS w (.pointer pp) k W0 := ⟨hx0, hb0, hb1, hb2⟩
  have HS0 := Lib.hid hS0
  have q0 : W0.cell? ⟨w.heap.size, 0, none⟩ = some (.pointer pp) := hb0.cell 0
  clear hW0 hb0 hb1 hb2 hS0
  refine (HH.out W0 hx0).mono ?_
  rintro e w1 ⟨rfl, rfl⟩
  go_wp2_with fail
  refine (HZ.out W0 hx0).mono ?_
  rintro e w1 ⟨rfl, q, rfl⟩
  go_wp2_with fail
  refine (hsr _ (HS0.out.step ((Ext.refl _).drewN q))).mono ?_
  rintro e w1 ⟨p, rfl, hp, hlo, hhi, he1⟩
  have hS1 := HS0.out.step (((Ext.refl _).drewN q).trans he1)
  have HS1 := Lib.hid hS1
  have r0 : w1.cell? ⟨w.heap.size, 0, none⟩ = some (.pointer pp) := hS1.b0.cell 0
  have hpos : posE es k = p := posE_of hp (fun i e hi he => by
      have : (!(klt ((es[i]?.map Prod.fst).getD ByteArray.empty) k)) = false := hlo i hi
      rw [he] at this
      simpa using this) (fun e he => by
      have : (!(klt ((es[p]?.map Prod.fst).getD ByteArray.empty) k)) = true := hhi p (Nat.le_refl _) (List.getElem?_eq_some_iff.1 he).1
      rw [he] at this
      simpa using this)
  have hget : getE es k = (es[p]?).bind fun e => if e.1 = k then some e.2 else none := by rw [getE_pos HS.out, hpos]
  have HG := Lib.hid hget
  clear hlo hhi hpos hsr he1 hS1 q0 hget hx0 hz0
  go_wp2_with fail
  by_cases hlt : p < es.length
  · obtain ⟨x, hx⟩ : ∃ x, es[p]? = some x := ⟨_, List.getElem?_eq_getElem hlt⟩
    have hc := HE.out w1 HS1.out.ext p x hx
    have HX := Lib.hid hx
    clear hx
    refine hc.mono ?_
    rintro e w2 ⟨sl, so, rfl, hx2, hrv⟩
    have hS2 := HS1.out.step hx2
    have HS2 := Lib.hid hS2
    have q1 : w2.cell? ⟨w.heap.size + 1, 0, none⟩ = some (.string k) := hS2.b1.cell 0
    obtain ⟨c0, c1, c2, c3, c4, c5⟩ := hS2.b2.c6
    have f2 := hS2.b2.frozen
    have l2 := hS2.b2.lt
    have l1 : w.heap.size + 1 < w2.heap.size := by omega
    have HRV := Lib.hid hrv
    clear hS2 hx2 hrv hc
    by_cases hk : x.1 = k
    · have hkb : (x.1.toList == k.toList) = true := by rw [beq_toList]; simpa using hk
      have hg : getE es k = some x.2 := by rw [HG.out, HX.out]; simp [hk]
      have HGG := Lib.hid hg
      clear hk hg
      go_wp2_with fail
      refine bodyPost_ret (v := .tuple #[aggV x.2 sl so, .bool true]) (by simp [results, Try.results93, go_sem, c0, c1, c2, c3, c4, c5, l2]) rfl ?_
      have hE := HS2.out.ext.putV (b := w.heap.size + 1 + 1) (by omega) 0 x.2 sl so
      have hr := (HRV.out.mono (G := In w.heap.size w2.heap.size) fun i hi => ⟨Nat.le_trans HS1.out.ext.size hi.1, hi.2⟩)
      have hr2 : RV w2 (fun b => In w.heap.size w2.heap.size b ∧ b ≠ w.heap.size + 1 + 1) x.2 sl so := HRV.out.mono fun i hi => ⟨⟨Nat.le_trans HS1.out.ext.size hi.1, hi.2⟩, by have := HS1.out.b2.lt; have := hi.1; omega⟩
      have hr3 := hr2.agree (putV_agree w2 (w.heap.size + 1 + 1) 0 x.2 sl so (F := fun b => In w.heap.size w2.heap.size b ∧ b ≠ w.heap.size + 1 + 1) (fun h => h.2 rfl))
      refine ⟨sl, so, by rw [HGG.out]; rfl, hE.alloc _ _, ?_⟩
      rw [HGG.out]
      refine (hr3.agree (Agree.alloc _ _ (fun b hb => by rw [putV_size]; exact hb.1.2))).mono fun i hi => ⟨hi.1.1, ?_⟩
      have := hi.1.2
      simp; omega
    · have hkb : (x.1.toList == k.toList) = false := by rw [beq_toList]; simpa using hk
      have hg : getE es k = none := by rw [HG.out, HX.out]; simp [hk]
      have HGG := Lib.hid hg
      clear hk hg
      go_wp2_with fail
      refine bodyPost_ret (v := .tuple #[aggV zeroV Sl.none Sl.none, .bool false]) (by simp [results, Try.results93, go_sem, c0, c1, c2, c3, c4, c5, l2]; exact ⟨rfl, rfl, rfl, rfl, rfl, rfl⟩) rfl ?_
      have hE := HS2.out.ext.putV (b := w.heap.size + 1 + 1) (by omega) 0 zeroV Sl.none Sl.none
      exact ⟨Sl.none, Sl.none, by rw [HGG.out]; rfl, hE.alloc _ _, by rw [HGG.out]; exact RV.flat _ _ _ _ _ _ rfl rfl (by decide)⟩
  · have hnn : es[p]? = none := List.getElem?_eq_none (by omega)
    have hg : getE es k = none := by rw [HG.out, hnn]; rfl
    have hc := HNO.out w1 HS1.out.ext p (by omega)
    have HGG := Lib.hid hg
    clear hg hnn
    refine hc.mono ?_
    rintro e w2 ⟨rfl, hx2⟩
    have hS2 := HS1.out.step hx2
    have HS2 := Lib.hid hS2
    obtain ⟨c0, c1, c2, c3, c4, c5⟩ := hS2.b2.c6
    have f2 := hS2.b2.frozen
    have l2 := hS2.b2.lt
    clear hS2 hx2 hc
    go_wp2_with fail
    refine bodyPost_ret (v := .tuple #[aggV zeroV Sl.none Sl.none, .bool false]) (by simp [results, Try.results93, go_sem, c0, c1, c2, c3, c4, c5, l2]; exact ⟨rfl, rfl, rfl, rfl, rfl, rfl⟩) rfl ?_
    have hE := HS2.out.ext.putV (b := w.heap.size + 1 + 1) (by omega) 0 zeroV Sl.none Sl.none
    exact ⟨Sl.none, Sl.none, by rw [HGG.out]; rfl, hE.alloc _ _, by rw [HGG.out]; exact RV.flat _ _ _ _ _ _ rfl rfl (by decide)⟩

theorem get_nil (w : World) (k : ByteArray) : Calls Try.prog 93 #[.pointer none, .string k] w (GetPost none w) :=
  get_leaf (es := []) ⟨_, rfl⟩ (fun W _ => height_nil W) (fun W _ => (size_nil W).mono fun e w' ⟨h1, h2⟩ => ⟨h1, 0, h2.symm⟩) (fun W _ i e h => by simp at h) (fun W _ i _ => entry_nil W i) List.Pairwise.nil (by simp) k
theorem get_zero {w : World} {t : PT 0} (hn : IsN w (Lt w.heap.size) 0 t) (ok : OkT 0 t) (hs : Sorted (ents 0 t)) (k : ByteArray) : Calls Try.prog 93 #[ptr 0 t, .string k] w (GetPost (getE (ents 0 t) k) w) := by
  have ok8 : (ents 0 t).length ≤ 8 := ok
  exact get_leaf ⟨_, rfl⟩ (fun W hW => height_any (hn.ext hW)) (fun W hW => size_any (hn.ext hW) (Nat.le_trans ok8 (by decide))) (fun W hW i e h => entry_any (hn.ext hW) h) (fun W hW i h => entry_none (hn.ext hW) (.inr (Int.ofNat_le.2 h))) hs (Nat.le_trans ok8 (by decide)) k
set_option maxRecDepth 100000 in
set_option maxHeartbeats 1000000 in
theorem get_succ {h : Nat} {k : ByteArray}
    (ih : ∀ (w : World) (F : Nat → Prop) (t : PT h), (∀ b, F b → b < w.heap.size) → IsN w F h t → OkT h t → Sorted (ents h t) → (ents h t).length ≤ 1000000 → Calls Try.prog 93 #[ptr h t, .string k] w (GetPost (getE (ents h t) k) w))
    {w : World} {F : Nat → Prop} {t : PT (h + 1)} (hF : ∀ b, F b → b < w.heap.size) (hn : IsN w F (h + 1) t) (ok : OkT (h + 1) t) (hs : Sorted (ents (h + 1) t)) (hc : (ents (h + 1) t).length ≤ 1000000) :
    Calls Try.prog 93 #[ptr (h + 1) t, .string k] w (GetPost (getE (ents (h + 1) t) k) w) := by
  have hpos := kids_pos ok
  have hh : h + 1 < 1000000 := Nat.lt_of_lt_of_le (height_lt (h + 1) t ok (by have := ok.1; show 1 ≤ t.2.length; omega)) hc
  obtain ⟨kid, hkid, hA, hC⟩ := which_split (h := h) (ks := t.2) hs hpos (by have := ok.1; omega) k
  have hkm' := List.mem_of_getElem? hkid
  have hil := (List.getElem?_eq_some_iff.1 hkid).1
  have hlen8 := ok.2.1
  have hks : ∀ x ∈ t.2, IsN w F h x := hn.2.choose_spec.2.2
  have hkc : (ents h kid).length ≤ 1000000 := Nat.le_trans (by
    show _ ≤ (t.2.flatMap (ents h)).length
    rw [take_mid hkid]; simp only [List.flatMap_append, List.flatMap_cons, List.length_append]; omega) hc
  have hge : getE (ents (h + 1) t) k = getE (ents h kid) k := getE_kid hkid hA hC
  rw [hge]
  have hih : ∀ W, Ext w W → Calls Try.prog 93 #[ptr h kid, .string k] W (GetPost (getE (ents h kid) k) W) := fun W hW =>
    ih W F kid (fun b hb => Nat.lt_of_lt_of_le (hF b hb) hW.size) ((hks kid hkm').agree (hW.agree hF)) (ok.2.2 kid hkm').1 (kid_sorted hs kid hkm') hkc
  generalize getE (ents h kid) k = og at *
  clear hge
  have HF := Lib.hid hF
  have HN := Lib.hid hn
  have HS := Lib.hid hs
  have HP := Lib.hid hpos
  have HIH := Lib.hid hih
  have HKS := Lib.hid hks
  have HKID := Lib.hid hkid
  have hgt : (0 : Int) < (h : Int) + 1 := by omega
  clear hF hn ok hs hc hpos hih hks hkid hA hC ih hkc
  go_enter Try.func93, Try.ntmps93
  go_wp2_with fail
  generalize hW0 : World.alloc _ _ = W0
  obtain ⟨hx0, hz0, hb0, hb1, hb2⟩ := three_blocks w _ _ _ _ _ _ W0 hW0
  have hS0 : GetS w (ptr (h + 1) t) k W0 := ⟨hx0, hb0, hb1, hb2⟩
  have HS0 := Lib.hid hS0
  have q0 : W0.cell? ⟨w.heap.size, 0, none⟩ = some (ptr (h + 1) t) := hb0.cell 0
  clear hW0 hb0 hb1 hb2 hS0
  have hnW : IsN W0 F (h + 1) t := HN.out.agree (hx0.agree HF.out)
  refine (height_any hnW).mono ?_
  rintro e w1 ⟨rfl, rfl⟩
  have hkc := kids_any hnW (by omega)
  clear hnW
  go_wp2_with fail
  refine hkc.mono ?_
  rintro e w1 ⟨s', rfl, hown, hx1⟩
  have hS1 := HS0.out.step hx1
  have HS1 := Lib.hid hS1
  have hrd : Rd w1 (Lt w1.heap.size) 1 s' t.2.length (ptrs h t.2) := (Rd.of_own hown).mono fun i hi => hi.2
  obtain ⟨g, cap, rfl, hbg, hnc, hcm, hfil⟩ := own_block hown (by omega)
  obtain ⟨i, hi⟩ : ∃ i, whichK h t.2 k = i := ⟨_, rfl⟩
  have hwh : ∀ W, Ext w1 W → Calls Try.prog 138 #[.slice (some ⟨g, 0, none⟩) t.2.length cap, .string k] W fun e w' => e = .returned (.int .i64 i) ∧ Ext W w' := fun W hW => by
    rw [← hi]
    exact which_any (s := ⟨some ⟨g, 0, none⟩, cap⟩) ((hrd.agree (hW.agree fun _ h => h)).mono fun i hi => Nat.lt_of_lt_of_le hi hW.size) (fun x hx => (HKS.out x hx).agree ((hS1.ext.trans hW).agree HF.out)) (fun b hb => Nat.lt_of_lt_of_le (HF.out b hb) (hS1.ext.trans hW).size) HP.out k HS.out (by omega)
  have hkid := HKID.out
  rw [hi] at hkid hil
  obtain ⟨b, o, hba, hbl, -, -, hbc⟩ := hrd.ptr_at hkid
  obtain ⟨rfl, rfl⟩ : g = b ∧ 0 = o := by simpa using hba
  have kc : w1.cell? ⟨g, i, none⟩ = some (ptr h kid) := by simpa using hbc
  have k1 : w1.cell? ⟨w.heap.size + 1, 0, none⟩ = some (.string k) := hS1.b1.cell 0
  have hg1 : g < w1.heap.size := hbl
  have hgn : ¬ g = w.heap.size + 1 + 1 := by omega
  have hgn' : ¬ w.heap.size + 1 + 1 = g := by omega
  clear hz0
  have l1 : w.heap.size + 1 < w1.heap.size := hS1.b1.lt
  have hii : (i : Int) < (t.2.length : Int) := by omega
  have hi0 : (0 : Int) ≤ (i : Int) := by omega
  have HWH := Lib.hid hwh
  have HHI := Lib.hid hi
  clear hwh hi hkid hbc hba hfil hown hrd hx1 hx0 hS1 hkc q0
  go_wp2_with fail
  go_region_held3 (fun w' => w'.cell? ⟨g, i, none⟩ = some (ptr h kid) ∧ w'.cell? ⟨w.heap.size + 1, 0, none⟩ = some (.string k)) (first | (with_reducible exact ⟨g3, k3⟩) | (with_reducible exact ⟨g2, k2⟩) | go_keep)
    (first
      | (go_at_call 138; refine (HWH.out _ ?_).mono ?_; (exact ((Ext.refl _).drew)); rintro e w2 ⟨rfl, hx2⟩; have g2 := (hx2.cell (o := i) hg1).trans kc; have k2 := (hx2.cell (o := 0) l1).trans k1; have hg2 := Nat.lt_of_lt_of_le hg1 hx2.size; have l2 := Nat.lt_of_lt_of_le l1 hx2.size)
      | (go_at_call 93; refine (HIH.out _ ?_).mono ?_; (exact HS1.out.ext.trans (((Ext.refl _).drew).trans hx2)); rintro e w3 ⟨sl, so, rfl, hx3, hrv⟩; have g3 := (hx3.cell (o := i) hg2).trans g2; have k3 := (hx3.cell (o := 0) l2).trans k2; have hS3 := HS1.out.step ((((Ext.refl _).drew).trans hx2).trans hx3); obtain ⟨c0, c1, c2, c3, c4, c5⟩ := hS3.b2.c6; have f3 := hS3.b2.frozen; have HS3 := Lib.hid hS3; have HX3 := Lib.hid hx3; have HRV := Lib.hid hrv; have HX2 := Lib.hid hx2; clear hS3 hx3 hrv hx2))
  go_wp2_with fail
  refine bodyPost_ret (v := .tuple #[aggV (og.getD zeroV) sl so, .bool og.isSome]) (by simp [results, Try.results93, go_sem, c0, c1, c2, c3, c4, c5]) rfl ?_
  have hE := HS3.out.ext.putV (b := w.heap.size + 1 + 1) (by omega) 0 (og.getD zeroV) sl so
  have hb2 := HS1.out.b2.lt
  have hX2 := HX2.out.size
  have hX3 := HX3.out.size
  have hE1 := HS1.out.ext.size
  rw [World.size_drew] at hX2
  have hr2 : RV w3 (fun b => In w.heap.size w3.heap.size b ∧ b ≠ w.heap.size + 1 + 1) (og.getD zeroV) sl so := HRV.out.mono fun i hi => ⟨⟨by have := hi.1; omega, hi.2⟩, by have := hi.1; omega⟩
  have hr3 := hr2.agree (putV_agree w3 (w.heap.size + 1 + 1) 0 (og.getD zeroV) sl so (F := fun b => In w.heap.size w3.heap.size b ∧ b ≠ w.heap.size + 1 + 1) (fun h => h.2 rfl))
  exact ⟨sl, so, rfl, hE, hr3.mono fun i hi => ⟨hi.1.1, by have := hi.1.2; simpa using this⟩⟩
theorem get_any {k : ByteArray} : ∀ (h : Nat) (w : World) (F : Nat → Prop) (t : PT h), (∀ b, F b → b < w.heap.size) → IsN w F h t → OkT h t → Sorted (ents h t) → (ents h t).length ≤ 1000000 → Calls Try.prog 93 #[ptr h t, .string k] w (GetPost (getE (ents h t) k) w)
  | 0, w, F, t, hF, hn, ok, hs, _ => get_zero (hn.mono hF) ok hs k
  | h + 1, w, F, t, hF, hn, ok, hs, hc => get_succ (fun w F t a b c d e => get_any h w F t a b c d e) hF hn ok hs hc
theorem getPost_end {w w3 : World} {b lo : Nat} {og : Option Val} {sl so : Sl} (hE : Ext w w3) (hb : w.heap.size ≤ b) (hlt : b < lo) (hr : RV w3 (In lo w3.heap.size) (og.getD zeroV) sl so) :
    GetPost og w (.returned (.tuple #[aggV (og.getD zeroV) sl so, .bool og.isSome])) (putV w3 b 0 (og.getD zeroV) sl so) := by
  refine ⟨sl, so, rfl, hE.putV hb _ _ _ _, ?_⟩
  rw [putV_size]
  exact (hr.agree (putV_agree w3 b 0 (og.getD zeroV) sl so (by omega))).mono fun i hi => ⟨by omega, hi.2⟩
theorem two_blocks (w : World) (t0 t1 : TypeId) (c0 c1 : Array Value) : ∀ W, (w.alloc (.cells c0 t0)).alloc (.cells c1 t1) = W →
    Ext w W ∧ W.heap.size = w.heap.size + 2 ∧ Blk W w.heap.size t0 c0 ∧ Blk W (w.heap.size + 1) t1 c1 := by
  rintro W rfl
  refine ⟨((Ext.refl w).alloc _ _).alloc _ _, by simp, (Blk.new w t0 c0).alloc _, ?_⟩
  have h := Blk.new (w.alloc (.cells c0 t0)) t1 c1
  rw [World.size_alloc] at h; exact h
theorem getR_any {w : World} {F : Nat → Prop} {T : RT} (hF : ∀ b, F b → b < w.heap.size) (hT : IsT w F T) (ok : OkR T) (hc : (entsT T).length ≤ 1000000) (k : ByteArray) :
    Calls Try.prog 93 #[rootV T, .string k] w (GetPost (getE (entsT T) k) w) := by
  match T, hT, ok, hc with
  | none, _, _, _ => exact get_nil w k
  | some ⟨h, t⟩, hT, ok, hc => exact get_any h w F t hF hT ok.1 ok.2.2 hc
set_option maxRecDepth 100000 in
set_option maxHeartbeats 400000 in
theorem treeGet_any {w : World} {F : Nat → Prop} {T : RT} (hF : ∀ b, F b → b < w.heap.size) (hT : IsT w F T) (ok : OkR T) (hc : (entsT T).length ≤ 1000000) (k : ByteArray) :
    Calls Try.prog 37 #[treeV T, .string k] w (GetPost (getE (entsT T) k) w) := by
  have hcw : ∀ W, Ext w W → Calls Try.prog 93 #[rootV T, .string k] W (GetPost (getE (entsT T) k) W) := fun W hW =>
    getR_any (fun b hb => Nat.lt_of_lt_of_le (hF b hb) hW.size) (hT.agree (hW.agree hF)) ok hc k
  generalize getE (entsT T) k = og at *
  have HW := Lib.hid hcw
  clear hF hT ok hcw
  go_enter Try.func37, Try.ntmps37
  go_wp2_with fail
  generalize hW0 : World.alloc _ _ = W0
  obtain ⟨hx0, hz0, -, hb1⟩ := two_blocks w _ _ _ _ W0 hW0
  have HZ := Lib.hid hz0
  have HX0 := Lib.hid hx0
  clear hW0 hz0
  refine (HW.out W0 hx0).mono ?_
  rintro e w1 ⟨sl, so, rfl, hx1, hrv⟩
  have hb := hb1.ext hx1
  obtain ⟨c0, c1, c2, c3, c4, c5⟩ := hb.c6
  have f2 := hb.frozen
  have HX1 := Lib.hid hx1
  have HRV := Lib.hid hrv
  clear hb hb1 hx1 hrv hx0
  go_wp2_with fail
  refine bodyPost_ret (v := .tuple #[aggV (og.getD zeroV) sl so, .bool og.isSome]) (by simp [results, Try.results37, go_sem, c0, c1, c2, c3, c4, c5]) rfl ?_
  exact getPost_end (HX0.out.trans HX1.out) (b := w.heap.size + 1) (lo := W0.heap.size) (by omega) (by rw [HZ.out]; omega) HRV.out
end Go.Proofs.Ytpapoalgocmlaaa
