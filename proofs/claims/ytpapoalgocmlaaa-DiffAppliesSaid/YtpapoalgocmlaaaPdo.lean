/- What the theorem needs of the texts Apply, App9, TrodC: no condition of its own. -/
import Derived.Test.YtpapoalgocmlaaaPda
import Derived.Test.YtpapoalgocmlaaaPdb
import Derived.Test.YtpapoalgocmlaaaPdc
import Derived.Test.YtpapoalgocmlaaaPdd
import Derived.Test.YtpapoalgocmlaaaPde
import Derived.Test.YtpapoalgocmlaaaPdf
import Derived.Test.YtpapoalgocmlaaaPdg
import Derived.Test.YtpapoalgocmlaaaPdh
import Derived.Test.YtpapoalgocmlaaaPdj
namespace Go.Proofs.Ytpapoalgocmlaaa
open Go.RowKit Go.Shelf
set_option linter.unusedVariables false
set_option linter.unusedSimpArgs false
def ApplyPost (F : Nat → Prop) (o : Option (List Ent)) (w : World) (e : Ending) (w' : World) : Prop :=
  ∃ T' : RT, e = .returned (.tuple #[treeV T', .int .i64 (if o.isSome then 0 else 13)]) ∧ OkR T' ∧ IsT w' (Up F w w') T' ∧ entsT T' = o.getD [] ∧ Ext w w'
def NB (F : Nat → Prop) (n : Nat) (w : World) (b : Nat) : Prop := (F b ∨ n ≤ b) ∧ b < w.heap.size ∧ b ≠ n ∧ b ≠ n + 1
theorem drop_at {α : Type} {l : List α} {j : Nat} {x : α} (h : l[j]? = some x) : l.drop j = x :: l.drop (j + 1) := by
  obtain ⟨h1, h2⟩ := List.getElem?_eq_some_iff.1 h
  rw [List.drop_eq_getElem_cons h1, h2]
theorem stepC_len (es : List Ent) (c : Chg) : (stepC es c).length ≤ es.length + 1 := by
  unfold stepC; split
  · rcases insE_len es c.k c.is_ with h | h <;> omega
  · have := (delE_sublist es c.k).length_le; omega
theorem apply_next {F : Nat → Prop} {w wr w7 w8 : World} {T' : RT} {p' : Option Addr} {v0 : Value} (hX : Ext w wr) (h7 : Ext wr w7) (h8 : Ext w7 w8) (hT : IsT w8 (Up (NB F w.heap.size wr) w7 w8) T') (hp : rootV T' = .pointer p') (hb : Blk wr w.heap.size 30 #[v0]) (hb1 : Blk wr (w.heap.size + 1) 30 #[.pointer none]) :
    IsT (w8.setCell ⟨w.heap.size, 0, none⟩ (.pointer p')) (NB F w.heap.size (w8.setCell ⟨w.heap.size, 0, none⟩ (.pointer p'))) T' ∧ Blk (w8.setCell ⟨w.heap.size, 0, none⟩ (.pointer p')) w.heap.size 30 #[rootV T'] ∧ Blk (w8.setCell ⟨w.heap.size, 0, none⟩ (.pointer p')) (w.heap.size + 1) 30 #[.pointer none] ∧ Ext w (w8.setCell ⟨w.heap.size, 0, none⟩ (.pointer p')) := by
  have l1 := hb1.lt
  have s7 := h7.size
  have s8 := h8.size
  refine ⟨(hT.agree (Agree.setCell w8 ⟨w.heap.size, 0, none⟩ _ ?_)).mono fun i hi => ?_, ?_, (hb1.ext (h7.trans h8)).far (by show w.heap.size + 1 ≠ w.heap.size; omega) _, ((hX.trans h7).trans h8).setCell (Nat.le_refl _) _⟩
  · rintro (hf | hf)
    · exact hf.2.2.1 rfl
    · have : w7.heap.size ≤ w.heap.size := hf.1
      omega
  · rw [NB, World.size_setCell]
    rcases hi with hi | hi
    · exact ⟨hi.1, by have := hi.2.1; omega, hi.2.2⟩
    · exact ⟨.inr (by have := hi.1; omega), hi.2, by have := hi.1; omega, by have := hi.1; omega⟩
  · rw [hp]; exact (hb.ext (h7.trans h8)).set_ 0 _
set_option maxRecDepth 100000 in
set_option maxHeartbeats 8000000 in
theorem apply_any {w : World} {F : Nat → Prop} {T : RT} {s : Sl} {cs : List CE} (hF : ∀ b, F b → b < w.heap.size) (hT : IsT w F T) (ok : OkR T) (hs : CS w (Lt w.heap.size) s cs) (hc : (entsT T).length + cs.length ≤ 100000) :
    Calls Try.prog 88 #[treeV T, .slice s.a cs.length s.c] w (ApplyPost F (apC (entsT T) (cs.map CE.c)) w) := by
  obtain ⟨p0, hp0⟩ := rootV_ptr T
  obtain ⟨n0, hn0⟩ : ∃ n, (entsT T).length = n := ⟨_, rfl⟩
  obtain ⟨ap, hap⟩ : ∃ ap, apC (entsT T) (cs.map CE.c) = ap := ⟨_, rfl⟩
  rw [treeV, hp0, hap]
  rw [hn0] at hc
  have HS := Lib.hid hs
  have H0 := Lib.hid (show IsT w F T ∧ OkR T ∧ (∀ b, F b → b < w.heap.size) ∧ (entsT T).length = n0 ∧ apC (entsT T) (cs.map CE.c) = ap ∧ rootV T = .pointer p0 from ⟨hT, ok, hF, hn0, hap, hp0⟩)
  clear hs hT ok hF hp0 hn0 hap
  go_enter Try.func88, Try.ntmps88
  go_wp2_with fail
  generalize hW0 : World.alloc (World.alloc _ _) _ = W0
  obtain ⟨hx0, hz0, hb0, hb1⟩ := two_blocks w _ _ _ _ W0 hW0
  have HX0 := Lib.hid hx0
  have HB0 := Lib.hid hb0
  have HB1 := Lib.hid hb1
  have HZ0 := Lib.hid hz0
  clear hW0 hx0 hb0 hb1 hz0
  go_loopw [12] (fun i wr => ∃ (j : Nat) (T1 : RT), j ≤ cs.length ∧ i = .int .i64 j ∧ OkR T1 ∧ IsT wr (NB F w.heap.size wr) T1 ∧ apC (entsT T1) ((cs.map CE.c).drop j) = ap ∧ (entsT T1).length ≤ n0 + j ∧ Blk wr w.heap.size 30 #[rootV T1] ∧ Blk wr (w.heap.size + 1) 30 #[.pointer none] ∧ Ext w wr) (fun i _ => cs.length - (intOf i).toNat)
  case atStart => exact ⟨0, T, Nat.zero_le _, rfl, H0.out.2.1, (H0.out.1.agree (HX0.out.agree H0.out.2.2.1)).mono fun i hi => ⟨.inl hi, by have := H0.out.2.2.1 i hi; have := HZ0.out; omega, by have := H0.out.2.2.1 i hi; omega, by have := H0.out.2.2.1 i hi; omega⟩, H0.out.2.2.2.2.1, by rw [H0.out.2.2.2.1]; exact Nat.le_refl _, by rw [H0.out.2.2.2.2.2]; exact HB0.out, HB1.out, HX0.out⟩
  case round =>
    obtain ⟨j, T1, hj, rfl, ok, hT, hap, hlT, hbT, hbR, hX⟩ := hrel
    obtain ⟨p1, hp1⟩ := rootV_ptr T1
    have hlb := hbR.lt
    have hlb0 : w.heap.size < wr.heap.size := by omega
    by_cases hlt : j < cs.length
    · have g1 : (j : Int) < (cs.length : Int) := by omega
      obtain ⟨x, hxx⟩ : ∃ x, cs[j]? = some x := ⟨_, List.getElem?_eq_getElem hlt⟩
      obtain ⟨b, o, hsa, lb, hcc, hcm, hcr, hcl⟩ := HS.out.at hxx
      obtain ⟨sa, sc⟩ := s
      dsimp only at hsa hcc hcm
      subst hsa
      have lb : b < w.heap.size := lb
      have hcr' : CR wr (Lt w.heap.size) x := hcr.agree (hX.agree fun _ h => h)
      have hsx : ∀ c u, x.cells.toList[c]? = some u → wr.cell? ⟨b, o + j * 15 + c, none⟩ = some u := fun c u hu => (hX.cell lb).trans (hcl c u hu)
      obtain ⟨v0, v1, v2, v3, v4, v5, v6, v7, v8, v9, v10, v11, v12, v13, v14⟩ := c15_of hsx
      have hdrop : (cs.map CE.c).drop j = x.c :: (cs.map CE.c).drop (j + 1) := drop_at (by rw [List.getElem?_map, hxx]; rfl)
      have hNB : ∀ i, NB F w.heap.size wr i → i < wr.heap.size := fun i hi => hi.2.1
      have hlc : (entsT T1).length ≤ 1000000 := by omega
      have hget := fun (W : World) (hW : Ext wr W) => treeGet_any (k := x.c.k) (fun b hb => Nat.lt_of_lt_of_le (hNB b hb) hW.size) (hT.agree (hW.agree hNB)) ok hlc
      have hput := fun (W : World) (hW : Ext wr W) => put_any (k := x.c.k) (v := x.c.is_) (sl := x.sli) (so := x.soi) (fun b hb => Nat.lt_of_lt_of_le (hNB b hb) hW.size) (hT.agree (hW.agree hNB)) ok hlc hcr'.key ((hcr'.is_.agree (hW.agree fun i (hi : i < w.heap.size) => Nat.lt_of_lt_of_le hi hX.size)).mono fun i (hi : i < w.heap.size) => Nat.lt_of_lt_of_le hi (hX.trans hW).size)
      have hdel := fun (W : World) (hW : Ext wr W) => delete_any (fun b hb => Nat.lt_of_lt_of_le (hNB b hb) hW.size) (hT.agree (hW.agree hNB)) ok hlc x.c.k
      have hidl := fun (W : World) (hW : Ext wr W) => idle_any ((hcr'.agree (hW.agree fun i (hi : i < w.heap.size) => Nat.lt_of_lt_of_le hi hX.size)).mono fun i (hi : i < w.heap.size) => Nat.lt_of_lt_of_le hi (hX.trans hW).size)
      have hcrW := fun (W : World) (hW : Ext wr W) => (hcr'.agree (hW.agree fun i (hi : i < w.heap.size) => Nat.lt_of_lt_of_le hi hX.size)).mono (G := Lt W.heap.size) fun i (hi : i < w.heap.size) => Nat.lt_of_lt_of_le hi (hX.trans hW).size
      obtain ⟨gv, hgv⟩ : ∃ g, (getE (entsT T1) x.c.k).getD zeroV = g := ⟨_, rfl⟩
      obtain ⟨gb, hgb⟩ : ∃ g, (getE (entsT T1) x.c.k).isSome = g := ⟨_, rfl⟩
      obtain ⟨bi, hbi⟩ : ∃ g, alikeB x.c.had x.c.was x.c.has x.c.is_ = g := ⟨_, rfl⟩
      obtain ⟨ba, hba⟩ : ∃ g, alikeB gb gv x.c.had x.c.was = g := ⟨_, rfl⟩
      have hfit : fitsC (entsT T1) x.c = (!bi && ba) := by rw [fitsC, hgv, hgb, hbi, hba]
      unfold GetPost at hget
      rw [treeV, hp1] at hget hput hdel
      rw [hgv, hgb] at hget
      rw [hbi] at hidl
      have hapx : ap = if (!bi && ba) = true then apC (stepC (entsT T1) x.c) ((cs.map CE.c).drop (j + 1)) else none := by rw [← hap, hdrop, apC, hfit]
      have hx3 : Ext wr (wr.alloc (.cells x.cells 134)) := (Ext.refl wr).alloc _ _
      have hb3 := Blk.new wr 134 x.cells
      have HSS := Lib.hid (show ∀ W, Ext (wr.alloc (.cells x.cells 134)) W → (W.cell? ⟨wr.heap.size, 0, none⟩ = some (.string x.c.k) ∧ W.cell? ⟨wr.heap.size, 1, none⟩ = some (.bool x.c.had) ∧ W.cell? ⟨wr.heap.size, 2, none⟩ = some (.int .i64 x.c.was.kind) ∧ W.cell? ⟨wr.heap.size, 3, none⟩ = some (.bool x.c.was.b) ∧ W.cell? ⟨wr.heap.size, 4, none⟩ = some (.int .i64 x.c.was.i) ∧ W.cell? ⟨wr.heap.size, 5, none⟩ = some (.string x.c.was.t) ∧ W.cell? ⟨wr.heap.size, 6, none⟩ = some (.slice x.slw.a x.c.was.l.length x.slw.c) ∧ W.cell? ⟨wr.heap.size, 7, none⟩ = some (.slice x.sow.a x.c.was.ok.length x.sow.c) ∧
          W.cell? ⟨wr.heap.size, 8, none⟩ = some (.bool x.c.has) ∧ W.cell? ⟨wr.heap.size, 9, none⟩ = some (.int .i64 x.c.is_.kind) ∧ W.cell? ⟨wr.heap.size, 10, none⟩ = some (.bool x.c.is_.b) ∧ W.cell? ⟨wr.heap.size, 11, none⟩ = some (.int .i64 x.c.is_.i) ∧ W.cell? ⟨wr.heap.size, 12, none⟩ = some (.string x.c.is_.t) ∧ W.cell? ⟨wr.heap.size, 13, none⟩ = some (.slice x.sli.a x.c.is_.l.length x.sli.c) ∧ W.cell? ⟨wr.heap.size, 14, none⟩ = some (.slice x.soi.a x.c.is_.ok.length x.soi.c)) ∧
          W.cell? ⟨w.heap.size, 0, none⟩ = some (.pointer p1) ∧ W.frozen? ⟨w.heap.size, 0, none⟩ = false ∧ W.cell? ⟨w.heap.size + 1, 0, none⟩ = some (.pointer none) ∧ W.frozen? ⟨w.heap.size + 1, 0, none⟩ = false ∧ w.heap.size + 1 < W.heap.size ∧ wr.heap.size < W.heap.size from fun W hW => by
        have h1 := hbT.ext (hx3.trans hW)
        have h2 := hbR.ext (hx3.trans hW)
        rw [hp1] at h1
        exact ⟨(hb3.ext hW).c15, h1.cell 0, h1.frozen 0, h2.cell 0, h2.frozen 0, h2.lt, (hb3.ext hW).lt⟩)
      have t0 : wr.cell? ⟨w.heap.size, 0, none⟩ = some (.pointer p1) := by have := hbT.cell 0; rw [hp1] at this; exact this
      have HX := Lib.hid hX
      have HX3 := Lib.hid hx3
      have HGET := Lib.hid hget
      have HPUT := Lib.hid hput
      have HDEL := Lib.hid hdel
      have HIDL := Lib.hid hidl
      have HCR := Lib.hid hcrW
      have HAP := Lib.hid hapx
      have HBA := Lib.hid hba
      have HOK := Lib.hid ok
      have HBT := Lib.hid hbT
      have HBR := Lib.hid hbR
      have HP1 := Lib.hid hp1
      have HLT := Lib.hid hlT
      clear hX hT hap hbT hbR hp1 hxx hcr hcl hcr' hsx hdrop hNB hget hput hdel hidl hcrW hgv hgb hbi hba hfit hapx hx3 hb3 ok hlc hlT
      go_wp2_with fail
      dsimp only [CE.cells] at HSS HX3
      generalize hW3 : wr.alloc (.cells _ _) = W3 at *
      clear hW3 t0 v0 v1 v2 v3 v4 v5 v6 v7 v8 v9 v10 v11 v12 v13 v14
      refine (HGET.out W3 HX3.out).mono ?_
      rintro e w4 ⟨gl, gq, rfl, hx4, hrv⟩
      have hx5 := (Ext.refl w4).alloc #[.int .i64 gv.kind, .bool gv.b, .int .i64 gv.i, .string gv.t, .slice gl.a gv.l.length gl.c, .slice gq.a gv.ok.length gq.c] 49
      have HB5 := Lib.hid (Blk.new w4 49 #[.int .i64 gv.kind, .bool gv.b, .int .i64 gv.i, .string gv.t, .slice gl.a gv.l.length gl.c, .slice gq.a gv.ok.length gq.c])
      have HRV := Lib.hid ((hrv.agree (hx5.agree fun b hb => hb.2)).mono (G := Lt (w4.alloc (.cells #[.int .i64 gv.kind, .bool gv.b, .int .i64 gv.i, .string gv.t, .slice gl.a gv.l.length gl.c, .slice gq.a gv.ok.length gq.c] 49)).heap.size) fun b hb => Nat.lt_of_lt_of_le hb.2 hx5.size)
      have H5 := Lib.hid (hx4.trans hx5)
      have q4 := HSS.out _ hx4
      clear hx4 hrv
      go_wp2_with fail
      have q5 := HSS.out _ H5.out
      clear q4 hx5
      generalize w4.alloc (.cells _ _) = W5 at *
      refine (HIDL.out W5 (HX3.out.trans H5.out)).mono ?_
      rintro e w6 ⟨rfl, hx6⟩
      have H6 := Lib.hid (H5.out.trans hx6)
      have hb6 := HB5.out.ext hx6
      obtain ⟨u0, u1, u2, u3, u4, u5⟩ := hb6.c6
      have ul := hb6.lt
      have HRV6 := Lib.hid ((HRV.out.agree (hx6.agree fun b hb => hb)).mono (G := Lt w6.heap.size) fun b hb => Nat.lt_of_lt_of_le hb hx6.size)
      have q6 := HSS.out _ H6.out
      clear q5 hx6 hb6 HRV HB5
      cases bi with
      | true =>
        have r0 := q6.2.2.2.1
        have HXE := Lib.hid (HX.out.trans (HX3.out.trans H6.out))
        clear u0 u1 u2 u3 u4 u5
        go_wp2_with fail
        have qr : (w6.setCell ⟨w.heap.size + 1, 0, none⟩ (.pointer none)).cell? ⟨w.heap.size + 1, 0, none⟩ = some (.pointer none) := World.cell?_setCell_same w6 _ _ r0
        refine bodyPost_ret (v := .tuple #[.agg #[.pointer none], .int .i64 13]) (by simp [results, Try.results88, go_sem, qr]) rfl ?_
        have hnone : ap = none := by rw [HAP.out]; rfl
        rw [hnone]
        exact ⟨none, rfl, trivial, trivial, rfl, HXE.out.setCell (p := ⟨w.heap.size + 1, 0, none⟩) (Nat.le_succ _) _⟩
      | false =>
        go_wp2_with fail
        refine (alike_any (a := gb) (b := x.c.had) HRV6.out (HCR.out w6 (HX3.out.trans H6.out)).was).mono ?_
        rintro e w7 ⟨rfl, hx7⟩
        rw [HBA.out]
        have H7 := Lib.hid (H6.out.trans hx7)
        have q7 := HSS.out _ H7.out
        have hs7 := hx7.size
        clear q6 hx7 u0 u1 u2 u3 u4 u5
        cases ba with
        | false =>
          have r0 := q7.2.2.2.1
          have HXE := Lib.hid (HX.out.trans (HX3.out.trans H7.out))
          go_wp2_with fail
          have qr : (w7.setCell ⟨w.heap.size + 1, 0, none⟩ (.pointer none)).cell? ⟨w.heap.size + 1, 0, none⟩ = some (.pointer none) := World.cell?_setCell_same w7 _ _ r0
          refine bodyPost_ret (v := .tuple #[.agg #[.pointer none], .int .i64 13]) (by simp [results, Try.results88, go_sem, qr]) rfl ?_
          have hnone : ap = none := by rw [HAP.out]; rfl
          rw [hnone]
          exact ⟨none, rfl, trivial, trivial, rfl, HXE.out.setCell (p := ⟨w.heap.size + 1, 0, none⟩) (Nat.le_succ _) _⟩
        | true =>
          have hap' : ap = apC (stepC (entsT T1) x.c) ((cs.map CE.c).drop (j + 1)) := by rw [HAP.out]; rfl
          have hsl := stepC_len (entsT T1) x.c
          have HAP' := Lib.hid hap'
          clear hap'
          cases hh : x.c.has with
          | true =>
            rw [hh] at q7
            have HH := Lib.hid hh
            clear hh
            go_wp2_with fail
            refine (HPUT.out w7 (HX3.out.trans H7.out)).mono ?_
            rintro e w8 ⟨T', rfl, hR, hT', hx8⟩
            obtain ⟨p', hp'⟩ := rootV_ptr T'
            rw [treeV, hp']
            have H8 := Lib.hid (H7.out.trans hx8)
            have q8 := HSS.out _ H8.out
            have hent : entsT T' = stepC (entsT T1) x.c := by rw [hR.ents HOK.out, stepC, if_pos HH.out]
            have HENT := Lib.hid hent
            have HOK' := Lib.hid (hR.ok HOK.out)
            have HNX := Lib.hid (apply_next HX.out (HX3.out.trans H7.out) hx8 hT' hp' HBT.out HBR.out)
            clear q7 hx8 hT' hR hp' hent
            go_wp2_with fail
            go_roundw
            case rel => exact ⟨j + 1, T', hlt, by go_num, HOK'.out, HNX.out.1, by rw [HENT.out]; exact HAP'.out.symm, by rw [HENT.out]; have := HLT.out; omega, HNX.out.2.1, HNX.out.2.2.1, HNX.out.2.2.2⟩
            case measure => simp [intOf]; omega
          | false =>
            rw [hh] at q7
            have HH := Lib.hid hh
            clear hh
            go_wp2_with fail
            refine (HDEL.out w7 (HX3.out.trans H7.out)).mono ?_
            rintro e w8 ⟨T', rfl, hR, hT', hx8⟩
            obtain ⟨p', hp'⟩ := rootV_ptr T'
            rw [treeV, hp']
            have H8 := Lib.hid (H7.out.trans hx8)
            have q8 := HSS.out _ H8.out
            have hent : entsT T' = stepC (entsT T1) x.c := by rw [hR.ents HOK.out, stepC, if_neg (by rw [HH.out]; simp)]
            have HENT := Lib.hid hent
            have HOK' := Lib.hid (hR.ok HOK.out)
            have HNX := Lib.hid (apply_next HX.out (HX3.out.trans H7.out) hx8 hT' hp' HBT.out HBR.out)
            clear q7 hx8 hT' hR hp' hent
            go_wp2_with fail
            go_roundw
            case rel => exact ⟨j + 1, T', hlt, by go_num, HOK'.out, HNX.out.1, by rw [HENT.out]; exact HAP'.out.symm, by rw [HENT.out]; have := HLT.out; omega, HNX.out.2.1, HNX.out.2.2.1, HNX.out.2.2.2⟩
            case measure => simp [intOf]; omega
    · have g1 : ¬ (j : Int) < (cs.length : Int) := by omega
      have hend : ap = some (entsT T1) := by
        rw [← hap, List.drop_of_length_le (by rw [List.length_map]; omega)]
        rfl
      have t0 : wr.cell? ⟨w.heap.size, 0, none⟩ = some (rootV T1) := hbT.cell 0
      rw [hp1] at t0
      have r0 : wr.cell? ⟨w.heap.size + 1, 0, none⟩ = some (.pointer none) := hbR.cell 0
      have fr := hbR.frozen 0
      have HE := Lib.hid hend
      have HFIN := Lib.hid (show OkR T1 ∧ IsT wr (NB F w.heap.size wr) T1 ∧ rootV T1 = .pointer p1 ∧ Ext w wr from ⟨ok, hT, hp1, hX⟩)
      clear ok hT hap hlT hbT hbR hX hp1 hend
      go_wp2_with fail
      have qr : (wr.setCell ⟨w.heap.size + 1, 0, none⟩ (.pointer p1)).cell? ⟨w.heap.size + 1, 0, none⟩ = some (.pointer p1) := World.cell?_setCell_same wr _ _ r0
      refine bodyPost_ret (v := .tuple #[.agg #[.pointer p1], .int .i64 0]) (by simp [results, Try.results88, go_sem, qr]) rfl ?_
      rw [HE.out]
      refine ⟨T1, by rw [treeV, HFIN.out.2.2.1]; rfl, HFIN.out.1, (HFIN.out.2.1.agree (Agree.setCell wr ⟨w.heap.size + 1, 0, none⟩ _ fun hf => hf.2.2.2 rfl)).mono fun i hi => hi.1.imp id fun h => ⟨h, by rw [World.size_setCell]; exact hi.2.1⟩, rfl, HFIN.out.2.2.2.setCell (p := ⟨w.heap.size + 1, 0, none⟩) (Nat.le_succ _) _⟩
end Go.Proofs.Ytpapoalgocmlaaa
namespace Go.Proofs.Ytpapoalgocmlaaa
open Go.RowKit Go.Shelf
set_option linter.unusedVariables false
set_option linter.unusedSimpArgs false
theorem CS.agreeG {w w' : World} {F : Nat → Prop} {s : Sl} {xs : List CE} (h : CS w F s xs) (ha : Agree F w w') : CS w' F s xs := ⟨h.rd.agree ha, fun x hx => (h.vals x hx).agree ha, h.few⟩
def App9Post (H : Nat → Prop) (M : Nat) (o : Option (List Ent)) (w : World) (e : Ending) (w' : World) : Prop :=
  ∃ es' : List Ent, e = .returned (.bool o.isSome) ∧ (∀ x, o = some x → es' = x) ∧ Sorted es' ∧ MapAt H w' M es' ∧ St (fun b => b = M) w w'
set_option maxRecDepth 100000 in
set_option maxHeartbeats 8000000 in
theorem app9_any {H G : Nat → Prop} {w : World} {M : Nat} {es : List Ent} {s : Sl} {cs : List CE} (hM : MapAt H w M es) (hH : ∀ b, H b → b < w.heap.size) (hso : Sorted es) (hs : CS w G s cs) (hG : ∀ b, G b → b < w.heap.size ∧ ¬ H b) (hc : es.length + cs.length ≤ 100000) :
    Calls Try.prog 89 #[.pointer (some ⟨M, 0, none⟩), .slice s.a cs.length s.c] w (App9Post H M (apC es (cs.map CE.c)) w) := by
  obtain ⟨n0, hn0⟩ : ∃ n, es.length = n := ⟨_, rfl⟩
  obtain ⟨ap, hap⟩ : ∃ ap, apC es (cs.map CE.c) = ap := ⟨_, rfl⟩
  rw [hap]
  rw [hn0] at hc
  have hHM := hM.hm
  have lM := hH M hHM
  have HS := Lib.hid hs
  have HH := Lib.hid hH
  have HG := Lib.hid hG
  have H0 := Lib.hid (show MapAt H w M es ∧ Sorted es ∧ es.length = n0 ∧ apC es (cs.map CE.c) = ap from ⟨hM, hso, hn0, hap⟩)
  clear hM hH hso hs hG hn0 hap
  go_enter Try.func89, Try.ntmps89
  go_wp2_with fail
  go_loopw [5] (fun i wr => ∃ (j : Nat) (es1 : List Ent), j ≤ cs.length ∧ i = .int .i64 j ∧ Sorted es1 ∧ apC es1 ((cs.map CE.c).drop j) = ap ∧ es1.length ≤ n0 + j ∧ MapAt H wr M es1 ∧ St (fun b => b = M) w wr) (fun i _ => cs.length - (intOf i).toNat)
  case atStart => exact ⟨0, es, Nat.zero_le _, rfl, H0.out.2.1, H0.out.2.2.2, by rw [H0.out.2.2.1]; exact Nat.le_refl _, H0.out.1, St.refl _ _⟩
  case round =>
    obtain ⟨j, es1, hj, rfl, hso, hap, hlT, hM, hX⟩ := hrel
    have hsw := hX.size
    by_cases hlt : j < cs.length
    · have g1 : (j : Int) < (cs.length : Int) := by omega
      obtain ⟨x, hxx⟩ : ∃ x, cs[j]? = some x := ⟨_, List.getElem?_eq_getElem hlt⟩
      have hag : Agree G w wr := fun b hb => hX.block b (HG.out b hb).1 (fun e => (HG.out b hb).2 (by rw [e]; exact hHM))
      obtain ⟨b, o, hsa, lb, hcc, hcm, hcr, hcl⟩ := (CS.agreeG HS.out hag).at hxx
      obtain ⟨sa, sc⟩ := s
      dsimp only at hsa hcc hcm
      subst hsa
      have lb : b < w.heap.size := (HG.out b lb).1
      obtain ⟨v0, v1, v2, v3, v4, v5, v6, v7, v8, v9, v10, v11, v12, v13, v14⟩ := c15_of hcl
      have lb' : b < wr.heap.size := by omega
      have hdrop : (cs.map CE.c).drop j = x.c :: (cs.map CE.c).drop (j + 1) := drop_at (by rw [List.getElem?_map, hxx]; rfl)
      have hlc : es1.length ≤ 1000000 := by omega
      have hHr : ∀ b, H b → b < wr.heap.size := fun b hb => Nat.lt_of_lt_of_le (HH.out b hb) hsw
      have hcrW : ∀ W, Ext wr W → CR W (NH H W) x := fun W hW => (hcr.agree (hW.agree fun i hi => Nat.lt_of_lt_of_le (HG.out i hi).1 hsw)).mono fun i hi => ⟨Nat.lt_of_lt_of_le (HG.out i hi).1 (Nat.le_trans hsw hW.size), (HG.out i hi).2⟩
      have hget := fun (W : World) (hW : Ext wr W) => get7 (hM.ext hW) hso x.c.k
      have hput := fun (W : World) (hW : Ext wr W) => put7_any (hM.ext hW) (fun b hb => Nat.lt_of_lt_of_le (hHr b hb) hW.size) hso hlc (hcrW W hW).key (hcrW W hW).is_
      have hdel := fun (W : World) (hW : Ext wr W) => del7_any (hM.ext hW) (fun b hb => Nat.lt_of_lt_of_le (hHr b hb) hW.size) hso hlc x.c.k
      obtain ⟨gv, hgv⟩ : ∃ g, (getE es1 x.c.k).getD zeroV = g := ⟨_, rfl⟩
      obtain ⟨gb, hgb⟩ : ∃ g, (getE es1 x.c.k).isSome = g := ⟨_, rfl⟩
      have hcmp2 := fun (W : World) (hW : Ext wr W) => cmp02_any _ x.c.was x.c.is_ (Nat.le_refl _) W _ _ _ _ ((hcrW W hW).was.mono fun i hi => hi.1) ((hcrW W hW).is_.mono fun i hi => hi.1)
      have hwas := fun (W : World) (hW : Ext wr W) => (hcrW W hW).was.mono (G := Lt W.heap.size) fun i hi => hi.1
      have hapx : ap = if (!alikeB x.c.had x.c.was x.c.has x.c.is_ && alikeB gb gv x.c.had x.c.was) = true then apC (stepC es1 x.c) ((cs.map CE.c).drop (j + 1)) else none := by
        rw [← hap, hdrop, apC, fitsC, hgv, hgb]
      have hsl := stepC_len es1 x.c
      unfold Get7Post at hget
      rw [hgv, hgb] at hget
      have hx3 : Ext wr (wr.alloc (.cells x.cells 134)) := (Ext.refl wr).alloc _ _
      have hb3 := Blk.new wr 134 x.cells
      have HSS := Lib.hid (show ∀ W, Ext (wr.alloc (.cells x.cells 134)) W → (W.cell? ⟨wr.heap.size, 0, none⟩ = some (.string x.c.k) ∧ W.cell? ⟨wr.heap.size, 1, none⟩ = some (.bool x.c.had) ∧ W.cell? ⟨wr.heap.size, 2, none⟩ = some (.int .i64 x.c.was.kind) ∧ W.cell? ⟨wr.heap.size, 3, none⟩ = some (.bool x.c.was.b) ∧ W.cell? ⟨wr.heap.size, 4, none⟩ = some (.int .i64 x.c.was.i) ∧ W.cell? ⟨wr.heap.size, 5, none⟩ = some (.string x.c.was.t) ∧ W.cell? ⟨wr.heap.size, 6, none⟩ = some (.slice x.slw.a x.c.was.l.length x.slw.c) ∧ W.cell? ⟨wr.heap.size, 7, none⟩ = some (.slice x.sow.a x.c.was.ok.length x.sow.c) ∧ W.cell? ⟨wr.heap.size, 8, none⟩ = some (.bool x.c.has) ∧ W.cell? ⟨wr.heap.size, 9, none⟩ = some (.int .i64 x.c.is_.kind) ∧ W.cell? ⟨wr.heap.size, 10, none⟩ = some (.bool x.c.is_.b) ∧ W.cell? ⟨wr.heap.size, 11, none⟩ = some (.int .i64 x.c.is_.i) ∧ W.cell? ⟨wr.heap.size, 12, none⟩ = some (.string x.c.is_.t) ∧ W.cell? ⟨wr.heap.size, 13, none⟩ = some (.slice x.sli.a x.c.is_.l.length x.sli.c) ∧ W.cell? ⟨wr.heap.size, 14, none⟩ = some (.slice x.soi.a x.c.is_.ok.length x.soi.c)) ∧ wr.heap.size < W.heap.size from fun W hW => ⟨(hb3.ext hW).c15, (hb3.ext hW).lt⟩)
      have HX := Lib.hid hX
      have HX3 := Lib.hid hx3
      have HGET := Lib.hid hget
      have HPUT := Lib.hid hput
      have HDEL := Lib.hid hdel
      have HWAS := Lib.hid hwas
      have HCMP2 := Lib.hid hcmp2
      have HAP := Lib.hid hapx
      have HSO := Lib.hid hso
      have HMA := Lib.hid hM
      have HLT := Lib.hid hlT
      clear hX hag hap hM hxx hcr hcl hdrop hcrW hget hput hdel hcmp2 hwas hgv hgb hapx hx3 hb3 hso hlc hlT hHr
      go_wp2_with fail
      dsimp only [CE.cells] at HSS HX3
      generalize hW3 : wr.alloc (.cells _ _) = W3 at *
      clear hW3 v0 v1 v2 v3 v4 v5 v6 v7 v8 v9 v10 v11 v12 v13 v14
      refine (HGET.out W3 HX3.out).mono ?_
      rintro e w4 ⟨gl, gq, rfl, hx4, hrv⟩
      have hx5 := (Ext.refl w4).alloc #[.int .i64 gv.kind, .bool gv.b, .int .i64 gv.i, .string gv.t, .slice gl.a gv.l.length gl.c, .slice gq.a gv.ok.length gq.c] 49
      have hx4s := hx4.size
      have hcmp1 := fun (W : World) (hW : Ext (w4.alloc (.cells #[.int .i64 gv.kind, .bool gv.b, .int .i64 gv.i, .string gv.t, .slice gl.a gv.l.length gl.c, .slice gq.a gv.ok.length gq.c] 49)) W) => cmp02_any _ gv x.c.was (Nat.le_refl _) W _ _ _ _ ((hrv.agree ((hx5.trans hW).agree fun i (hi : i < W3.heap.size) => by omega)).mono fun i (hi : i < W3.heap.size) => (show i < W.heap.size by have := (hx5.trans hW).size; omega)) (HWAS.out W (HX3.out.trans ((hx4.trans hx5).trans hW)))
      have HCMP1 := Lib.hid hcmp1
      have HB5 := Lib.hid (Blk.new w4 49 #[.int .i64 gv.kind, .bool gv.b, .int .i64 gv.i, .string gv.t, .slice gl.a gv.l.length gl.c, .slice gq.a gv.ok.length gq.c])
      have H5 := Lib.hid (hx4.trans hx5)
      clear hx4 hrv hcmp1 hx5
      cases h1 : gb with
      | true =>
        cases h2 : x.c.had with
        | true =>
          have q5 := HSS.out _ H5.out
          rw [h2] at q5
          have hne : (true != true) = false := rfl
          obtain ⟨u0, u1, u2, u3, u4, u5⟩ := HB5.out.c6
          have ul := HB5.out.lt
          go_wp2_with fail
          refine (HCMP1.out _ (Ext.refl _)).mono ?_
          rintro e w6 ⟨rfl, hx6⟩
          have H6 := Lib.hid (H5.out.trans hx6)
          have q6 := HSS.out _ H6.out
          rw [h2] at q6
          clear hx6 q5 u0 u1 u2 u3 u4 u5 ul
          by_cases hc : cmpV gv x.c.was = 0
          · skip
            have hcb : (cmpV gv x.c.was != 0) = false := by simp [hc]
            have HC := Lib.hid hc
            clear hc
            cases h3 : x.c.has with
            | false =>
              rw [h3] at q6
              have hap' : ap = apC (stepC es1 x.c) ((cs.map CE.c).drop (j + 1)) := by
                rw [HAP.out]
                rw [show (!alikeB x.c.had x.c.was x.c.has x.c.is_ && alikeB gb gv x.c.had x.c.was) = true from by rw [h1, h2, h3]; simp [alikeB, HC.out]]
                rfl
              have hst' : stepC es1 x.c = delE es1 x.c.k := by rw [stepC, h3]; rfl
              have HAP' := Lib.hid hap'
              have HST' := Lib.hid hst'
              clear hap' hst'
              go_wp2_with fail
              refine (HDEL.out w6 (HX3.out.trans H6.out)).mono ?_
              rintro e w8 ⟨rfl, hm8, hst8⟩
              rw [← HST'.out] at hm8
              have HM8 := Lib.hid hm8
              have HX8 := Lib.hid (HX.out.trans (((HX3.out.trans H6.out).st (fun b => b = M)).trans hst8))
              clear hm8 hst8
              go_wp2_with fail
              go_roundw
              case rel => exact ⟨j + 1, stepC es1 x.c, hlt, by go_num, stepC_sorted HSO.out _, HAP'.out.symm, by have := HLT.out; omega, HM8.out, HX8.out⟩
              case measure => simp [intOf]; omega
            | true =>
              rw [h3] at q6
              go_wp2_with fail
              refine (HCMP2.out w6 (HX3.out.trans H6.out)).mono ?_
              rintro e w7 ⟨rfl, hx7⟩
              have H7 := Lib.hid (H6.out.trans hx7)
              have q7 := HSS.out _ H7.out
              rw [h2, h3] at q7
              clear hx7 q6
              by_cases hc2 : cmpV x.c.was x.c.is_ = 0
              · have hcb2 : (cmpV x.c.was x.c.is_ == 0) = true := by simp [hc2]
                have HC2 := Lib.hid hc2
                clear hc2
                have hnone : ap = none := by
                  rw [HAP.out]
                  rw [show (!alikeB x.c.had x.c.was x.c.has x.c.is_ && alikeB gb gv x.c.had x.c.was) = false from by rw [h1, h2, h3]; simp [alikeB, HC2.out]]
                  rfl
                have HXE := Lib.hid (HX.out.trans ((HX3.out.trans H7.out).st _))
                have HNO := Lib.hid hnone
                clear hnone
                go_wp2_with fail
                go_ret
                rw [HNO.out]
                exact ⟨es1, rfl, fun x h => (by cases h), HSO.out, HMA.out.ext (HX3.out.trans H7.out), HXE.out⟩
              · have hcb2 : (cmpV x.c.was x.c.is_ == 0) = false := by simp [hc2]
                have HC2 := Lib.hid hc2
                clear hc2
                have hap' : ap = apC (stepC es1 x.c) ((cs.map CE.c).drop (j + 1)) := by
                  rw [HAP.out]
                  rw [show (!alikeB x.c.had x.c.was x.c.has x.c.is_ && alikeB gb gv x.c.had x.c.was) = true from by rw [h1, h2, h3]; simp [alikeB, HC.out, HC2.out]]
                  rfl
                have hst' : stepC es1 x.c = insE es1 x.c.k x.c.is_ := by rw [stepC, h3]; rfl
                have HAP' := Lib.hid hap'
                have HST' := Lib.hid hst'
                clear hap' hst'
                go_wp2_with fail
                refine (HPUT.out w7 (HX3.out.trans H7.out)).mono ?_
                rintro e w8 ⟨⟨r, rfl⟩, hm8, hst8⟩
                rw [← HST'.out] at hm8
                have HM8 := Lib.hid hm8
                have HX8 := Lib.hid (HX.out.trans (((HX3.out.trans H7.out).st (fun b => b = M)).trans hst8))
                clear hm8 hst8
                go_wp2_with fail
                go_roundw
                case rel => exact ⟨j + 1, stepC es1 x.c, hlt, by go_num, stepC_sorted HSO.out _, HAP'.out.symm, by have := HLT.out; omega, HM8.out, HX8.out⟩
                case measure => simp [intOf]; omega
          · have hcb : (cmpV gv x.c.was != 0) = true := bne_iff_ne.2 hc
            have HC := Lib.hid hc
            clear hc
            have hnone : ap = none := by
              rw [HAP.out]
              rw [show (!alikeB x.c.had x.c.was x.c.has x.c.is_ && alikeB gb gv x.c.had x.c.was) = false from by rw [h1, h2]; simp [alikeB, HC.out]]
              rfl
            have HXE := Lib.hid (HX.out.trans ((HX3.out.trans H6.out).st _))
            have HNO := Lib.hid hnone
            clear hnone
            go_wp2_with fail
            go_ret
            rw [HNO.out]
            exact ⟨es1, rfl, fun x h => (by cases h), HSO.out, HMA.out.ext (HX3.out.trans H6.out), HXE.out⟩
        | false =>
          have q5 := HSS.out _ H5.out
          rw [h2] at q5
          have hne : (true != false) = true := rfl
          have hnone : ap = none := by
            rw [HAP.out]
            rw [show (!alikeB x.c.had x.c.was x.c.has x.c.is_ && alikeB gb gv x.c.had x.c.was) = false from by rw [h1, h2]; simp [alikeB]]
            rfl
          have HXE := Lib.hid (HX.out.trans ((HX3.out.trans H5.out).st _))
          have HNO := Lib.hid hnone
          clear hnone
          go_wp2_with fail
          go_ret
          rw [HNO.out]
          exact ⟨es1, rfl, fun x h => (by cases h), HSO.out, HMA.out.ext (HX3.out.trans H5.out), HXE.out⟩
      | false =>
        cases h2 : x.c.had with
        | true =>
          have q5 := HSS.out _ H5.out
          rw [h2] at q5
          have hne : (false != true) = true := rfl
          have hnone : ap = none := by
            rw [HAP.out]
            rw [show (!alikeB x.c.had x.c.was x.c.has x.c.is_ && alikeB gb gv x.c.had x.c.was) = false from by rw [h1, h2]; simp [alikeB]]
            rfl
          have HXE := Lib.hid (HX.out.trans ((HX3.out.trans H5.out).st _))
          have HNO := Lib.hid hnone
          clear hnone
          go_wp2_with fail
          go_ret
          rw [HNO.out]
          exact ⟨es1, rfl, fun x h => (by cases h), HSO.out, HMA.out.ext (HX3.out.trans H5.out), HXE.out⟩
        | false =>
          have q5 := HSS.out _ H5.out
          rw [h2] at q5
          have hne : (false != false) = false := rfl
          cases h3 : x.c.has with
          | false =>
            rw [h3] at q5
            have hnone : ap = none := by
              rw [HAP.out]
              rw [show (!alikeB x.c.had x.c.was x.c.has x.c.is_ && alikeB gb gv x.c.had x.c.was) = false from by rw [h1, h2, h3]; simp [alikeB]]
              rfl
            have HXE := Lib.hid (HX.out.trans ((HX3.out.trans H5.out).st _))
            have HNO := Lib.hid hnone
            clear hnone
            go_wp2_with fail
            go_ret
            rw [HNO.out]
            exact ⟨es1, rfl, fun x h => (by cases h), HSO.out, HMA.out.ext (HX3.out.trans H5.out), HXE.out⟩
          | true =>
            rw [h3] at q5
            have hap' : ap = apC (stepC es1 x.c) ((cs.map CE.c).drop (j + 1)) := by
              rw [HAP.out]
              rw [show (!alikeB x.c.had x.c.was x.c.has x.c.is_ && alikeB gb gv x.c.had x.c.was) = true from by rw [h1, h2, h3]; simp [alikeB]]
              rfl
            have hst' : stepC es1 x.c = insE es1 x.c.k x.c.is_ := by rw [stepC, h3]; rfl
            have HAP' := Lib.hid hap'
            have HST' := Lib.hid hst'
            clear hap' hst'
            go_wp2_with fail
            refine (HPUT.out _ (HX3.out.trans H5.out)).mono ?_
            rintro e w8 ⟨⟨r, rfl⟩, hm8, hst8⟩
            rw [← HST'.out] at hm8
            have HM8 := Lib.hid hm8
            have HX8 := Lib.hid (HX.out.trans (((HX3.out.trans H5.out).st (fun b => b = M)).trans hst8))
            clear hm8 hst8
            go_wp2_with fail
            go_roundw
            case rel => exact ⟨j + 1, stepC es1 x.c, hlt, by go_num, stepC_sorted HSO.out _, HAP'.out.symm, by have := HLT.out; omega, HM8.out, HX8.out⟩
            case measure => simp [intOf]; omega
    · have g1 : ¬ (j : Int) < (cs.length : Int) := by omega
      have hend : ap = some es1 := by
        rw [← hap, List.drop_of_length_le (by rw [List.length_map]; omega)]
        rfl
      have HE := Lib.hid hend
      have HFIN := Lib.hid (show Sorted es1 ∧ MapAt H wr M es1 ∧ St (fun b => b = M) w wr from ⟨hso, hM, hX⟩)
      clear hso hap hlT hM hX hend
      go_wp2_with fail
      go_ret
      rw [HE.out]
      exact ⟨es1, rfl, fun x h => Option.some.inj h, HFIN.out.1, HFIN.out.2.1, HFIN.out.2.2⟩
end Go.Proofs.Ytpapoalgocmlaaa
namespace Go.Proofs.Ytpapoalgocmlaaa
open Go.RowKit
set_option linter.unusedVariables false
set_option linter.unusedSimpArgs false
set_option maxRecDepth 100000
theorem cellsOfChange : Try.prog.cellsOf 134 = 15 := by kernel_rfl
theorem bytesOfChange : Try.prog.bytesOf 134 = 208 := by kernel_rfl
instance : Inhabited CE := ⟨⟨⟨ByteArray.empty, false, default, false, default⟩, Sl.none, Sl.none, Sl.none, Sl.none⟩⟩
theorem flatC_at {xs : List CE} {i : Nat} {x : CE} (hx : xs[i]? = some x) {c : Nat} (hc : c < 15) : (flatC xs)[i * 15 + c]? = x.cells.toList[c]? := by
  have hsp : flatC xs = flatC (xs.take i) ++ (x.cells.toList ++ flatC (xs.drop (i + 1))) := by
    have e : xs = xs.take i ++ x :: xs.drop (i + 1) := by
      obtain ⟨h1, h2⟩ := List.getElem?_eq_some_iff.1 hx
      conv => lhs; rw [← List.take_append_drop i xs, List.drop_eq_getElem_cons h1, h2]
    conv => lhs; rw [e]
    simp [flatC]
  have hi : i < xs.length := (List.getElem?_eq_some_iff.1 hx).1
  have hl : (flatC (xs.take i)).length = i * 15 := by rw [flatC_len, List.length_take, Nat.min_eq_left (Nat.le_of_lt hi)]
  rw [hsp, List.getElem?_append_right (by omega), hl, Nat.add_sub_cancel_left, List.getElem?_append_left (by simpa using hc)]
theorem changes_of_trod {H : Type} {enc : TypeId × Value → H} {w : World} {held : Bool} {fuel : Nat} {cs : List Value} {x : DataW H × List MemPlace} (h : tr enc Try.prog w held fuel 131 cs = some x) (hw : WOk Try.prog 131 x.1) : ∃ (s : Sl) (xs : List CE), cs = [.slice s.a xs.length s.c] ∧ CS w (Lt w.heap.size) s xs := by
  obtain ⟨n, len, s, b, o, -, hc, hs, hby, he⟩ := trod_rows (e := 134) (C := 15) (B := 208) Try.underlying131 cellsOfChange bytesOfChange (by decide) h hw
  have hE : ∀ i, i < len → ∃ a : CE, (∀ c, c < 15 → w.cell? ⟨b, o + i * 15 + c, none⟩ = a.cells.toList[c]?) ∧ CR w (Lt w.heap.size) a := fun i hi => by
    obtain ⟨cs', y, hl8, hc, ht, hw⟩ := he i hi
    obtain ⟨n6, rfl, hl, hf⟩ := trod_fields Try.underlying134 ht hw
    obtain ⟨z0, g0, -⟩ := hf 0 _ rfl
    obtain ⟨z1, g1, -⟩ := hf 1 _ rfl
    obtain ⟨z2, g2, u2⟩ := hf 2 _ rfl
    obtain ⟨z3, g3, -⟩ := hf 3 _ rfl
    obtain ⟨z4, g4, u4⟩ := hf 4 _ rfl
    obtain ⟨k, hk, wk⟩ := trod_s (by kernel_rfl) g0
    obtain ⟨had, hhad⟩ := trod_b (by kernel_rfl) g1
    obtain ⟨has, hhas⟩ := trod_b (by kernel_rfl) g3
    have g2' : tr enc Try.prog w held n6 49 ((cs'.drop 2).take 6) = some z2 := by
      have := g2
      dsimp only at this
      rw [cellsOfValue] at this
      exact this
    have g4' : tr enc Try.prog w held n6 49 ((cs'.drop 9).take 6) = some z4 := by
      have := g4
      dsimp only at this
      rw [cellsOfValue] at this
      exact this
    obtain ⟨v, sl, so, hv, hr⟩ := rv_of_trod n6 g2' u2
    obtain ⟨v', sl', so', hv', hr'⟩ := rv_of_trod n6 g4' u4
    have a0 : cs'[0]? = some (.string k) := at_of_take hk (j := 0) (by decide)
    have a1 : cs'[1]? = some (.bool had) := at_of_take hhad (j := 0) (by decide)
    have a8 : cs'[8]? = some (.bool has) := at_of_take hhas (j := 0) (by decide)
    have cj : ∀ j, j < 6 → w.cell? ⟨b, o + i * 15 + (2 + j), none⟩ = (cellsV v sl so)[j]? := fun j hj => by
      rw [← at_of_take hv hj, ← hc (2 + j) (by omega)]
    have cj' : ∀ j, j < 6 → w.cell? ⟨b, o + i * 15 + (9 + j), none⟩ = (cellsV v' sl' so')[j]? := fun j hj => by
      rw [← at_of_take hv' hj, ← hc (9 + j) (by omega)]
    refine ⟨⟨⟨k, had, v, has, v'⟩, sl, so, sl', so'⟩, fun c hc15 => ?_, ⟨hr, hr', wk⟩⟩
    have hcc : c = 0 ∨ c = 1 ∨ c = 2 ∨ c = 3 ∨ c = 4 ∨ c = 5 ∨ c = 6 ∨ c = 7 ∨ c = 8 ∨ c = 9 ∨ c = 10 ∨ c = 11 ∨ c = 12 ∨ c = 13 ∨ c = 14 := by omega
    rcases hcc with rfl | rfl | rfl | rfl | rfl | rfl | rfl | rfl | rfl | rfl | rfl | rfl | rfl | rfl | rfl
    · exact (hc 0 (by decide)).trans a0
    · exact (hc 1 (by decide)).trans a1
    · exact cj 0 (by decide)
    · exact cj 1 (by decide)
    · exact cj 2 (by decide)
    · exact cj 3 (by decide)
    · exact cj 4 (by decide)
    · exact cj 5 (by decide)
    · exact (hc 8 (by decide)).trans a8
    · exact cj' 0 (by decide)
    · exact cj' 1 (by decide)
    · exact cj' 2 (by decide)
    · exact cj' 3 (by decide)
    · exact cj' 4 (by decide)
    · exact cj' 5 (by decide)
  obtain ⟨f, hf⟩ := skolem hE
  refine ⟨s, (List.range len).map f, by rw [List.length_map, List.length_range]; exact hc, ⟨⟨b, o, by rw [List.length_map, List.length_range]; exact hs, by rw [flatC_len], fun j u hj => ?_⟩, fun x hx => ?_, by rw [List.length_map, List.length_range]; omega⟩⟩
  · have hjl : j < len * 15 := by
      have := (List.getElem?_eq_some_iff.1 hj).1
      rw [flatC_len, List.length_map, List.length_range] at this
      exact this
    obtain ⟨i, c, rfl, hc7⟩ : ∃ i c, j = i * 15 + c ∧ c < 15 := ⟨j / 15, j % 15, by omega, by omega⟩
    have hi : i < len := by omega
    have hx : ((List.range len).map f)[i]? = some (f i) := by rw [List.getElem?_map, List.getElem?_range hi]; rfl
    rw [flatC_at hx hc7] at hj
    rw [← Nat.add_assoc]
    exact ((hf i hi).1 c hc7).trans hj
  · obtain ⟨j, hj⟩ := List.getElem?_of_mem hx
    obtain ⟨h1, rfl⟩ := ofFn_get hj
    exact (hf j h1).2
end Go.Proofs.Ytpapoalgocmlaaa
