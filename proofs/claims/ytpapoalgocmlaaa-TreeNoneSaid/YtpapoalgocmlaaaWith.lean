/- tree.with: the node, or the two nodes, in which a key has a value. -/
import Derived.Test.YtpapoalgocmlaaaWithP
namespace Go.Proofs.Ytpapoalgocmlaaa
open Go.RowKit
set_option linter.unusedVariables false
set_option linter.unusedSimpArgs false

/-- A row of entries that the call owns, and its block. -/
theorem OE.block {w : World} {base : Nat} {s : Sl} {xs : List LE} (h : OE w base s xs) (hn : 0 < xs.length) : ∃ g cap, s = ⟨some ⟨g, 0, none⟩, cap⟩ ∧ base ≤ g ∧ xs.length ≤ cap ∧ cap ≤ maxLen ∧ Filling w g 56 7 cap := by
  rcases h.own.2 with ⟨hv, h0⟩ | ⟨g, cap, cur, hv, hbg, hg, hnc, hcm, hcs, -⟩
  · omega
  · simp only [Value.slice.injEq] at hv
    exact ⟨g, cap, by obtain ⟨a, c⟩ := s; simp_all, hbg, hnc, hcm, cur, hg, hcs⟩
theorem flatE_set (xs : List LE) (i : Nat) (x : LE) {p : Nat} {u : Value} (hi : i < xs.length) (hu : (flatE (xs.set i x))[p]? = some u) :
    (∃ c, c < 7 ∧ p = i * 7 + c ∧ x.cells[c]? = some u) ∨ ((p < i * 7 ∨ i * 7 + 7 ≤ p) ∧ (flatE xs)[p]? = some u) := by
  have hp : p < xs.length * 7 := by have := (List.getElem?_eq_some_iff.1 hu).1; rw [flatE_len, List.length_set] at this; exact this
  obtain ⟨j, c, rfl, hc7⟩ : ∃ j c, p = j * 7 + c ∧ c < 7 := ⟨p / 7, p % 7, by omega, by omega⟩
  by_cases hj : j = i
  · subst hj
    rw [flatE_at (x := x) (by rw [List.getElem?_set_self hi]) c hc7] at hu
    exact .inl ⟨c, hc7, rfl, hu⟩
  · obtain ⟨y, hy⟩ : ∃ y, xs[j]? = some y := ⟨_, List.getElem?_eq_getElem (by omega)⟩
    rw [flatE_at (x := y) (by rw [List.getElem?_set_ne (by omega)]; exact hy) c hc7] at hu
    exact .inr ⟨by omega, by rw [flatE_at hy c hc7]; exact hu⟩
/-- An entry put into an owned row. -/
theorem OE.set {w : World} {base g cap : Nat} {xs : List LE} (ho : OE w base ⟨some ⟨g, 0, none⟩, cap⟩ xs) (hbg : base ≤ g) (hb : base ≤ w.heap.size) (hcap : xs.length ≤ cap) (hcm : cap ≤ maxLen) (hf : Filling w g 56 7 cap) {i : Nat} (hi : i < xs.length) {k : ByteArray} {v : Val} {sl so : Sl} (hv : RV w (Lt base) v sl so) (hk : k.size ≤ maxLen) :
    ES (putM w g (i * 7) k v sl so) (Lt w.heap.size) ⟨some ⟨g, 0, none⟩, cap⟩ (xs.set i ⟨k, v, sl, so⟩) := by
  have hh := putM_here hf (o := i * 7) k v sl so (by omega)
  refine ⟨⟨g, 0, ?_, by rw [flatE_len], fun p u hu => ?_⟩, fun x hx => ?_, by rw [List.length_set]; exact ho.few⟩
  · rw [List.length_set]; exact .some _ _ _ _ hcap hcm hf.lt
  · rw [Nat.zero_add]
    rcases flatE_set xs i _ hi hu with ⟨c, hc, rfl, hcu⟩ | ⟨hd, hpu⟩
    · have hc7' : c = 0 ∨ c = 1 ∨ c = 2 ∨ c = 3 ∨ c = 4 ∨ c = 5 ∨ c = 6 := by omega
      rcases hc7' with rfl | rfl | rfl | rfl | rfl | rfl | rfl
      · exact hh.1.trans hcu
      · exact hh.2.c0.trans hcu
      · exact hh.2.c1.trans hcu
      · exact hh.2.c2.trans hcu
      · exact hh.2.c3.trans hcu
      · exact hh.2.c4.trans hcu
      · exact hh.2.c5.trans hcu
    · rw [putM_other _ _ _ _ _ _ _ _ (by omega)]
      have := ho.own.cells (g := g) rfl p u hpu
      rwa [add_at, Nat.zero_add] at this
  · rcases List.mem_or_eq_of_mem_set hx with hx | rfl
    · exact ⟨((ho.vals x hx).1.agree (putM_agree w g _ k v sl so (fun h => h.2 rfl))).mono fun i hi => hi.1.2, (ho.vals x hx).2⟩
    · exact ⟨(hv.agree (putM_agree w g _ k v sl so (fun h => by have h : g < base := h; omega))).mono fun i hi => Nat.lt_of_lt_of_le hi hb, hk⟩

theorem LE.one (x : LE) : ∀ u ∈ x.cells, u.oneCell' = true := by
  intro u hu
  simp only [LE.cells, List.mem_cons, List.not_mem_nil, or_false] at hu
  rcases hu with rfl | rfl | rfl | rfl | rfl | rfl | rfl <;> rfl
theorem flatE_one (xs : List LE) : ∀ u ∈ flatE xs, u.oneCell' = true := fun u hu => by
  obtain ⟨x, -, hx⟩ := List.mem_flatMap.1 hu
  exact x.one u hx
/-- What an owned row is behind slices.Insert. -/
theorem OE.inserted {w w' : World} {base p : Nat} {s s' : Sl} {xs : List LE} (ho : OE w base s xs) (hp : p ≤ xs.length) (hb : base ≤ w.heap.size) {x : LE} (hv : RV w (Lt base) x.v x.sl x.so) (hk : x.k.size ≤ maxLen) (hf : (xs.length + 1) * 104 ≤ 140737488355328)
    (hown : w'.ownsRow base 56 7 (.slice s'.a (xs.length + 1) s'.c) (xs.length + 1) ((flatE xs).take (p * 7) ++ x.cells ++ (flatE xs).drop (p * 7))) (hw : Wr w w' s.row) :
    ES w' (Lt w'.heap.size) s' (xs.take p ++ x :: xs.drop p) := by
  have hl : (xs.take p ++ x :: xs.drop p).length = xs.length + 1 := by simp; omega
  have hrow : ∀ b, s.row = some b → base ≤ b := fun b hb => (ho.own.lt b (by obtain ⟨a, c⟩ := s; cases a <;> simp_all [Value.ownBlock, Sl.row])).1
  refine ⟨?_, fun y hy => ?_, by rw [hl]; exact hf⟩
  · have h1 := Rd.of_own hown
    rw [hl, flatE_app, flatE_cons, ← flatE_take, ← flatE_drop, ← List.append_assoc]
    exact h1.mono fun i hi => hi.2
  · rcases List.mem_append.1 hy with hy | hy
    · have h1 := ho.vals y (List.mem_of_mem_take hy)
      exact ⟨(h1.1.agree (hw.agree (fun i hi => hi.1.2) fun k hk h => h.2 hk)).mono fun i hi => Nat.lt_of_lt_of_le hi.1.2 hw.grown.size, h1.2⟩
    · rcases List.mem_cons.1 hy with rfl | hy
      · exact ⟨(hv.agree (hw.agree (fun i hi => Nat.lt_of_lt_of_le hi hb) fun k hk h => Nat.lt_irrefl _ (Nat.lt_of_lt_of_le h (hrow k hk)))).mono fun i hi => Nat.lt_of_lt_of_le hi (Nat.le_trans hb hw.grown.size), hk⟩
      · have h1 := ho.vals y (List.mem_of_mem_drop hy)
        exact ⟨(h1.1.agree (hw.agree (fun i hi => hi.1.2) fun k hk h => h.2 hk)).mono fun i hi => Nat.lt_of_lt_of_le hi.1.2 hw.grown.size, h1.2⟩
/-- What with hands back of a leaf. -/
def WithPost0 (es : List Ent) (k : ByteArray) (v : Val) (w : World) (e : Ending) (w' : World) : Prop :=
  ∃ ts : List (PT 0), e = two 0 ts ∧ ts.map Prod.snd = chunk (insE es k v) ∧ (∀ u ∈ ts, w.heap.size ≤ u.1 ∧ IsN w' (In w.heap.size w'.heap.size) 0 u) ∧ Ext w w'

theorem with0_end {w w3 w' : World} {es : List Ent} {k : ByteArray} {v : Val} (hE : Ext w w3) {ts : List (PT 0)} (h1 : ts.map Prod.snd = chunk (insE es k v)) (h2 : ∀ t ∈ ts, w3.heap.size ≤ addr 0 t ∧ IsN w' (In w3.heap.size w'.heap.size) 0 t) (h3 : Ext w3 w') : WithPost0 es k v w (two 0 ts) w' :=
  ⟨ts, rfl, h1, fun u hu => ⟨Nat.le_trans hE.size (h2 u hu).1, (h2 u hu).2.mono fun i hi => ⟨Nat.le_trans hE.size hi.1, hi.2⟩⟩, hE.trans h3⟩
theorem two_cases {es : List Ent} {ts : List (PT 0)} (h : ts.map Prod.snd = chunk es) : (∃ a, ts = [a]) ∨ ∃ a b, ts = [a, b] := by
  rcases chunk_two es with ⟨a, ha⟩ | ⟨a, b, ha⟩ <;> rw [ha] at h
  · obtain ⟨x, hx, -⟩ := one0 h; exact .inl ⟨x, hx⟩
  · obtain ⟨x, y, hx, -⟩ := two0 h; exact .inr ⟨x, y, hx⟩

set_option maxRecDepth 100000 in
set_option maxHeartbeats 1000000 in
theorem with_leaf {w : World} {nv : Value} {es : List Ent} (hh : ∀ W, Ext w W → Calls Try.prog 67 #[nv] W fun e w' => e = .returned (.int .i64 0) ∧ W = w') (he : ∀ W, Ext w W → Calls Try.prog 117 #[nv] W (EntriesPost es W))
    (hs : Sorted es) (h8 : es.length ≤ 8) {k : ByteArray} {v : Val} {sl so : Sl} (hv : RV w (Lt w.heap.size) v sl so) (hkm : k.size ≤ maxLen) :
    Calls Try.prog 91 #[nv, aggE k v sl so] w (WithPost0 es k v w) := by
  have HH := Lib.hid hh
  have HE := Lib.hid he
  have HV := Lib.hid hv
  have HS := Lib.hid hs
  clear hh he hv hs
  go_enter Try.func91, Try.ntmps91
  go_wp2_with fail
  have hx0 : Ext w (w.alloc (.cells #[.string k, .int .i64 v.kind, .bool v.b, .int .i64 v.i, .string v.t, .slice sl.a v.l.length sl.c, .slice so.a v.ok.length so.c] 56)) := (Ext.refl w).alloc _ _
  have hb0 := Blk.new w 56 #[.string k, .int .i64 v.kind, .bool v.b, .int .i64 v.i, .string v.t, .slice sl.a v.l.length sl.c, .slice so.a v.ok.length so.c]
  generalize hW0 : World.alloc _ _ = W0 at *
  have hz0 : W0.heap.size = w.heap.size + 1 := by rw [← hW0]; simp
  clear hW0
  refine (HH.out _ hx0).mono ?_
  rintro e w1 ⟨rfl, rfl⟩
  go_wp2_with fail
  refine (HE.out _ hx0).mono ?_
  rintro e w1 ⟨s', xs', rfl, hxs, ho, hx1⟩
  have hb1 := hb0.ext hx1
  obtain ⟨c0, c1, c2, c3, c4, c5, c6⟩ := hb1.c7
  have hpl := place_any (w := w1) (ho.es.mono fun i hi => hi.2) k (by rw [hxs]; exact HS.out)
  rw [hxs] at hpl
  obtain ⟨p, hp⟩ : ∃ p, posE es k = p := ⟨_, rfl⟩
  have hple := posE_le es k
  unfold PlacePost at hpl
  have hins := insE_pos HS.out k v
  rw [hp] at hpl hple hins
  have hlen : xs'.length = es.length := by rw [← hxs, List.length_map]
  have HO := Lib.hid ho
  have HPL := Lib.hid hpl
  have HI := Lib.hid hins
  have HXS := Lib.hid hxs
  have HX1 := Lib.hid hx1
  have HLEN := Lib.hid hlen
  have h8' : xs'.length ≤ 8 := by omega
  clear ho hpl hp hins hxs hlen
  go_wp2_with fail
  refine HPL.out.mono ?_
  rintro e w2 ⟨rfl, hx2⟩
  have hb2 := hb1.ext hx2
  obtain ⟨d0, d1, d2, d3, d4, d5, d6⟩ := hb2.c7
  clear c0 c1 c2 c3 c4 c5 c6
  have hX2 : Ext w w2 := (hx0.trans hx1).trans hx2
  have ho2 := HO.out.ext hx2
  have HX2 := Lib.hid hX2
  have HO2 := Lib.hid ho2
  have hb2l := hb2.lt
  have hbase : W0.heap.size ≤ w2.heap.size := (hx1.trans hx2).size
  clear hb1 hb2 hb0 hx0 hx1 hx2 hX2
  cases ht : decide ((es[p]?).map Prod.fst = some k)
  · have htp : ¬ (es[p]?).map Prod.fst = some k := of_decide_eq_false ht
    have hi2 : insE es k v = es.take p ++ (k, v) :: es.drop p := by rw [HI.out, if_neg htp]
    have hE3 : Ext w2 (w2.alloc (.cells #[.string k, .int .i64 v.kind, .bool v.b, .int .i64 v.i, .string v.t, .slice sl.a v.l.length sl.c, .slice so.a v.ok.length so.c] 56)) := (Ext.refl w2).alloc _ _
    have hb3 := Blk.new w2 56 (LE.cells ⟨k, v, sl, so⟩).toArray
    have HI2 := Lib.hid hi2
    clear ho2 hi2 htp
    go_wp2_with fail
    change Calls _ _ _ (w2.alloc (.cells (LE.cells ⟨k, v, sl, so⟩).toArray 56)) _
    change Ext w2 (w2.alloc (.cells (LE.cells ⟨k, v, sl, so⟩).toArray 56)) at hE3
    generalize hW3 : w2.alloc (.cells (LE.cells ⟨k, v, sl, so⟩).toArray 56) = W3 at *
    have ho3 := HO2.out.ext hE3
    have hvb : RV W3 (Lt W0.heap.size) v sl so := (HV.out.agree ((HX2.out.trans hE3).agree fun _ h => h)).mono fun i hi => Nat.lt_of_lt_of_le hi (by rw [hz0]; exact Nat.le_succ _)
    have hne : s'.row ≠ some w2.heap.size := fun h => by
      have := (HO2.out.own.lt w2.heap.size (by obtain ⟨a, c⟩ := s'; cases a <;> simp_all [Value.ownBlock, Sl.row])).2
      omega
    have hins := insE_any (i := p) (base := W0.heap.size) ho3.own (Nat.le_trans hbase hE3.size) (by omega) (by have := HLEN.out; omega) (LE.len ⟨k, v, sl, so⟩) hb3 hne (LE.one _) (flatE_one _)
    have HE3 := Lib.hid hE3
    have HO3 := Lib.hid ho3
    have HVB := Lib.hid hvb
    clear hE3 ho3 hvb hb3 hne hW3
    refine hins.mono ?_
    rintro e w4 ⟨s4, rfl, hown4, hwr4, -⟩
    have hes := HO3.out.inserted (by have := HLEN.out; omega) (Nat.le_trans hbase HE3.out.size) (x := ⟨k, v, sl, so⟩) HVB.out hkm (by omega) hown4 hwr4
    have hl : (xs'.take p ++ ⟨k, v, sl, so⟩ :: xs'.drop p).length = xs'.length + 1 := by have := HLEN.out; simp; omega
    have hm : (xs'.take p ++ ⟨k, v, sl, so⟩ :: xs'.drop p).map LE.ent = insE es k v := by
      rw [HI2.out, ← HXS.out, List.map_append, List.map_cons, List.map_take, List.map_drop]; rfl
    have hsp := splitE_any hes (risingN_of (by rw [hm]; exact insE_sorted HS.out k v)) (by omega)
    rw [hl, hm] at hsp
    have hE4 : Ext w w4 := (HX2.out.trans HE3.out).wr hwr4 fun i hi => by
      have := (HO3.out.own.lt i (by obtain ⟨a, c⟩ := s'; cases a <;> simp_all [Value.ownBlock, Sl.row])).1
      omega
    have HSP := Lib.hid hsp
    have HE4 := Lib.hid hE4
    clear hes hsp hE4 hown4 hwr4 hl hm hins
    go_wp2_with fail
    refine HSP.out.mono ?_
    rintro e w5 ⟨ts, rfl, h1, h2, h3⟩
    have H2 := Lib.hid h2
    have H1 := Lib.hid h1
    clear h2
    rcases two_cases h1 with ⟨a, rfl⟩ | ⟨a, b, rfl⟩
    all_goals
      clear h1
      simp only [two]
      go_wp2_with fail
      go_ret2
      exact with0_end HE4.out H1.out H2.out h3
  · have htp : (es[p]?).map Prod.fst = some k := of_decide_eq_true ht
    have hpl : p < xs'.length := by
      cases hq : es[p]? with
      | none => rw [hq] at htp; cases htp
      | some x => rw [HLEN.out]; exact (List.getElem?_eq_some_iff.1 hq).1
    obtain ⟨g, cap, rfl, hbg, hnc, hcm, hfil⟩ := ho2.block (by omega)
    have hvb : RV w2 (Lt W0.heap.size) v sl so := (HV.out.agree (HX2.out.agree fun _ h => h)).mono fun i hi => Nat.lt_of_lt_of_le hi (by rw [hz0]; exact Nat.le_succ _)
    have hes := HO2.out.set hbg hbase hnc hcm hfil hpl hvb hkm
    have hm : (xs'.set p ⟨k, v, sl, so⟩).map LE.ent = insE es k v := by
      rw [HI.out, if_pos htp, ← HXS.out, List.map_set, List.set_eq_take_append_cons_drop, if_pos (by simpa using hpl)]; rfl
    have hsp := splitE_any (w := putM w2 g (p * 7) k v sl so) (hes.mono fun i hi => by rw [putM_size]; exact hi) (risingN_of (by rw [hm]; exact insE_sorted HS.out k v)) (by rw [List.length_set]; omega)
    rw [hm, List.length_set] at hsp
    have hE4 : Ext w (putM w2 g (p * 7) k v sl so) := HX2.out.putM (by omega) _ _ _ _ _
    have HE4 := Lib.hid hE4
    obtain ⟨x0, hx0⟩ : ∃ v, w2.cell? ⟨g, p * 7, none⟩ = some v := hfil.cell (by omega)
    obtain ⟨x1, hx1⟩ : ∃ v, w2.cell? ⟨g, p * 7 + 1, none⟩ = some v := hfil.cell (by omega)
    obtain ⟨x2, hx2⟩ : ∃ v, w2.cell? ⟨g, p * 7 + 2, none⟩ = some v := hfil.cell (by omega)
    obtain ⟨x3, hx3⟩ : ∃ v, w2.cell? ⟨g, p * 7 + 3, none⟩ = some v := hfil.cell (by omega)
    obtain ⟨x4, hx4⟩ : ∃ v, w2.cell? ⟨g, p * 7 + 4, none⟩ = some v := hfil.cell (by omega)
    obtain ⟨x5, hx5⟩ : ∃ v, w2.cell? ⟨g, p * 7 + 5, none⟩ = some v := hfil.cell (by omega)
    obtain ⟨x6, hx6⟩ : ∃ v, w2.cell? ⟨g, p * 7 + 6, none⟩ = some v := hfil.cell (by omega)
    have hff := hfil.frozen
    have hpl' : (p : Int) < (xs'.length : Int) := by omega
    have HSP := Lib.hid hsp
    have hgl := hfil.lt
    clear hes hsp hfil ho2 hvb hm hE4
    go_wp2_with fail
    change Calls _ _ _ (putM w2 g (p * 7) k v sl so) _
    refine HSP.out.mono ?_
    rintro e w5 ⟨ts, rfl, h1, h2, h3⟩
    have H2 := Lib.hid h2
    have H1 := Lib.hid h1
    clear h2
    rcases two_cases h1 with ⟨a, rfl⟩ | ⟨a, b, rfl⟩
    all_goals
      clear h1
      simp only [two]
      go_wp2_with fail
      go_ret2
      exact with0_end HE4.out H1.out H2.out h3
end Go.Proofs.Ytpapoalgocmlaaa
