/- What the theorem needs of the texts DiffEarly: no condition of its own. -/
import Derived.RangeFuncNested
import Derived.RangeFuncBound
import Derived.RangeFuncCalls
import Derived.RangeFuncLeaves
import Derived.OwnWalkIn
import Derived.Test.YtpapoalgocmlaaaPda
import Derived.Test.YtpapoalgocmlaaaPdb
import Derived.Test.YtpapoalgocmlaaaPdc
import Derived.Test.YtpapoalgocmlaaaPdd
import Derived.Test.YtpapoalgocmlaaaPde
import Derived.Test.YtpapoalgocmlaaaPdf
import Derived.Test.YtpapoalgocmlaaaPdg
import Derived.Test.YtpapoalgocmlaaaPdh
import Derived.Test.YtpapoalgocmlaaaPdm
namespace Go.Proofs.Ytpapoalgocmlaaa
open Go.RowKit Go.Shelf
set_option linter.unusedVariables false
set_option linter.unusedSimpArgs false
attribute [local go_sem] Oper.semAt_some
theorem CS.agree9e {w w' : World} {F : Nat → Prop} {s : Sl} {xs : List CE} (h : CS w F s xs) (ha : Agree F w w') : CS w' F s xs := ⟨h.rd.agree ha, fun x hx => (h.vals x hx).agree ha, h.few⟩
theorem collC_move {w W0 W3 : World} {L : Nat} {xs : List CE} {C D D1 : Nat → Prop} (hL : L < w.heap.size) (h : CollC w L xs C D W0) (h03 : St (fun b => D b ∨ b = w.heap.size + 1) W0 W3) (hD1 : ∀ b, D1 b → D b ∨ W0.heap.size ≤ b) (hlo : ∀ b, D1 b → w.heap.size + 2 ≤ b) (hCD : ∀ b, C b → ¬ D1 b) : CollC w L xs C D1 W3 := by
  obtain ⟨⟨s, rfl, hblk, hown⟩, hv, hst, hsz, hdis, hdlo⟩ := h
  have hrow0 : ∀ b, s.row = some b → w.heap.size + 2 ≤ b ∧ b < W0.heap.size := fun b hb => own_row hown hb
  have hnd : ∀ b, (b = L ∨ s.row = some b) → ¬ (D b ∨ b = w.heap.size + 1) := fun b hb e => e.elim (hdis b hb) (fun e => by
    rcases hb with h | h
    · omega
    · have := (hrow0 b h).1; omega)
  refine ⟨⟨s, rfl, h03.blk hblk (hnd L (.inl rfl)), own_agree hown h03.agree fun b hb => ⟨(hrow0 b hb).2, hnd b (.inr hb)⟩⟩, fun x hx => ?_, hst.then h03 fun i hi e => ?_, Nat.le_trans hsz h03.size, hCD, hlo⟩
  · refine ((hv x hx).agree (h03.agree.mono fun b hb => ⟨hb.2.1, fun e => e.elim hb.2.2.1 (by have := hb.1; omega)⟩)).mono fun b hb => ⟨hb.1, Nat.lt_of_lt_of_le hb.2.1 h03.size, fun e => ?_, hb.2.2.2⟩
    rcases hD1 b e with e | e
    · exact hb.2.2.1 e
    · have := hb.2.1; omega
  · rcases e with e | e
    · have := hdlo i e; omega
    · omega
theorem CollC.cs {w W : World} {L : Nat} {xs : List CE} {C D : Nat → Prop} (h : CollC w L xs C D W) (hl : xs.length ≤ 1000000) : ∃ s : Sl, Blk W L 131 #[.slice s.a xs.length s.c] ∧ CS W (Lt W.heap.size) s xs := by
  obtain ⟨⟨s, -, hblk, hown⟩, hv, -⟩ := h
  exact ⟨s, hblk, (Rd.of_own hown).mono fun b hb => hb.2, fun x hx => (hv x hx).mono fun b hb => hb.2.1, by omega⟩
def EarlyX (w6 : World) (L : Nat) (few : Int) (pre : List CE) (D : Nat → Prop) (W : World) : Prop := ∃ pre' x C, pre = pre' ++ [x] ∧ (pre'.length : Int) = few ∧ CollC w6 L pre' C D W
theorem early_ends {w4 W0 : World} {L : Nat} {all : List Chg} {few : Int} {Di : Nat → Prop} (h : (∃ (xs : List CE) (C : Nat → Prop), xs.map CE.c = all ∧ CollC w4 L xs C Di W0 ∧ (few < 0 ∨ (xs.length : Int) ≤ few)) ∨ (∃ pre : List CE, pre.map CE.c <+: all ∧ EarlyX w4 L few pre Di W0)) :
    ∃ (ys : List CE) (C : Nat → Prop), ys.map CE.c = all.take ys.length ∧ ys.length ≤ all.length ∧ CollC w4 L ys C Di W0 ∧ (few < 0 ∨ (all.length : Int) ≤ few ∨ ((ys.length : Int) = few ∧ ys.length < all.length)) := by
  rcases h with ⟨xs, C, h1, h2, h3⟩ | ⟨pre, h1, pre', x, C, rfl, h2, h3⟩
  · have hl : xs.length = all.length := by rw [← h1, List.length_map]
    refine ⟨xs, C, by rw [hl, List.take_length, h1], by omega, h2, ?_⟩
    rcases h3 with h | h
    · exact .inl h
    · exact .inr (.inl (by omega))
  · have hlen := h1.length_le
    simp only [List.map_append, List.length_append, List.length_map, List.map_cons, List.map_nil, List.length_cons, List.length_nil] at hlen
    have h4 : pre'.map CE.c = all.take pre'.length := by
      have h5 : pre'.map CE.c <+: all := (by rw [List.map_append]; exact List.prefix_append _ _ : pre'.map CE.c <+: (pre' ++ [x]).map CE.c).trans h1
      have := List.prefix_iff_eq_take.1 h5
      rwa [List.length_map] at this
    exact ⟨pre', C, h4, by omega, h3, .inr (.inr ⟨h2, by omega⟩)⟩
set_option maxRecDepth 100000 in
set_option maxHeartbeats 4000000 in
theorem early_not (s0 : Sl) (l0 : List LA) (s1 : Sl) (l1 : List LA) (few : Int) (w : World) (hbig : 200 < l0.length ∨ 100 < l1.length) :
    Calls Try.prog 25 #[.slice s0.a l0.length s0.c, .slice s1.a l1.length s1.c, .int .i64 few] w fun e w' => e = .returned (.bool true) ∧ Below w.heap.size w w' := by
  have hcase : (200 : Int) < (l0.length : Int) ∨ (¬ (200 : Int) < (l0.length : Int) ∧ (100 : Int) < (l1.length : Int)) := by omega
  have hx0 := (Ext.refl w).alloc #[.int .i64 few] 3
  have HX0 := Lib.hid hx0
  clear hbig hx0
  rcases hcase with g | ⟨g, g'⟩
  all_goals
    refine (callsIn_wide (n := 6)).1 ?_
    refine callsIn_of_wp_marks Try.func25 rfl trivial ?_ rfl
    simp only [Try.ntmps25, List.size_toArray, List.length_cons, List.length_nil, Nat.reduceAdd, Nat.reduceSub, Array.replicate_succ, Array.replicate_zero, List.push_toArray, List.append_toArray, List.nil_append, List.cons_append]
    gi_wp2_with fail
    refine ⟨trivial, ?_⟩
    refine (callsIn_wide.2 (known09 _)).mono ?_
    rintro e w2 ⟨rfl, hb2⟩
    have HB2 := Lib.hid (HX0.out.trans hb2)
    clear hb2
    gi_wp2_with fail
    refine ⟨.bool true, ?_, rfl, HB2.out.below⟩
    simp [results, Try.f25, go_sem]
set_option maxRecDepth 100000 in
set_option maxHeartbeats 16000000 in
theorem early_yes (s0 : Sl) (l0 : List LA) (s1 : Sl) (l1 : List LA) (few : Int) (w : World) (h0 : AS w (Lt w.heap.size) s0 l0) (h1 : AS w (Lt w.heap.size) s1 l1) (hf0 : -9223372036854775808 ≤ few) (hf1 : few ≤ 9223372036854775807) (hl0 : l0.length ≤ 200) (hl1 : l1.length ≤ 100) :
    Calls Try.prog 25 #[.slice s0.a l0.length s0.c, .slice s1.a l1.length s1.c, .int .i64 few] w fun e w' => e = .returned (.bool true) ∧ Below w.heap.size w w' := by
  obtain ⟨i0, hi, hz0, hz1, hz2⟩ := info_parts Try.infoChange
  have g0 : ¬ (200 : Int) < (l0.length : Int) := by omega
  have g1 : ¬ (100 : Int) < (l1.length : Int) := by omega
  have H0 := Lib.hid h0
  have H1 := Lib.hid h1
  have HNI := Lib.hid (fun (W : World) lb => eql_func_nil9 (P := Try.prog) W (t := 144) (.func 129) #[] lb Try.underlying144)
  clear h0 h1
  refine (callsIn_wide (n := 6)).1 ?_
  refine callsIn_of_wp_marks Try.func25 rfl trivial ?_ rfl
  simp only [Try.ntmps25, List.size_toArray, List.length_cons, List.length_nil, Nat.reduceAdd, Nat.reduceSub, Array.replicate_succ, Array.replicate_zero, List.push_toArray, List.append_toArray, List.nil_append, List.cons_append]
  gi_wp2_with fail
  generalize hW0 : World.alloc (World.alloc (World.alloc _ _) _) _ = W0
  obtain ⟨hx0, hz0', hbf, hbz, hbm⟩ := three_blocks w _ _ _ _ _ _ W0 hW0
  have P0 := Lib.hid (show Pl w.heap.size (fun b => b = w.heap.size + 1 + 1) (w.heap.size + 1 + 1) none none 0 W0 from ⟨fun b hb => by omega, by omega, PlayI.nil rfl hbm, fun b hb => by omega, rfl, Nat.le_refl _⟩)
  have HX0 := Lib.hid hx0
  have HF0 := Lib.hid hbf
  have hs0 := hx0.size
  clear hW0 hx0 hbf hbz hbm hz0'
  refine ⟨trivial, ?_⟩
  refine (callsIn_wide.2 (P0.out.run (H0.out.agree (HX0.out.agree fun _ h => h)) (fun b (hb : b < w.heap.size) => ⟨by omega, by omega⟩) (by omega))).mono ?_
  rintro e w1 ⟨T1, p1, M1, rfl, hP1, hx1, -⟩
  have P1 := Lib.hid hP1
  have HX1 := Lib.hid (HX0.out.trans hx1)
  have HF1 := Lib.hid (HF0.out.ext hx1)
  have hs1 := hx1.size
  clear hP1 hx1
  gi_wp2_with fail
  have HXA := Lib.hid ((Ext.refl w1).alloc #[.pointer p1] 30)
  have HBT := Lib.hid (Blk.new w1 30 #[.pointer p1])
  refine ⟨trivial, ?_⟩
  refine (callsIn_wide.2 ((P1.out.ext HXA.out).run (H1.out.agree ((HX1.out.trans HXA.out).agree fun _ h => h)) (fun b (hb : b < w.heap.size) => ⟨by have := HXA.out.size; omega, fun hh => by have := P1.out.lo b hh; omega⟩) (by omega))).mono ?_
  rintro e w2 ⟨T2, p2, M2, rfl, hP2, hx2, -⟩
  have hx3 := (Ext.refl w2).alloc #[.pointer p2] 30
  have hx23 := hx2.trans hx3
  have P23 := Lib.hid (hP2.ext hx3)
  have P13 := Lib.hid (P1.out.ext (HXA.out.trans hx23))
  have HBT3 := Lib.hid (HBT.out.ext hx23)
  have HBU3 := Lib.hid (Blk.new w2 30 #[.pointer p2])
  have HX3 := Lib.hid ((HX1.out.trans HXA.out).trans hx23)
  have HF3 := Lib.hid (HF1.out.ext (HXA.out.trans hx23))
  clear hP2 hx2 hx3 hx23
  gi_wp2_with fail
  generalize w2.alloc (.cells #[.pointer p2] 30) = W3 at *
  have hs3 := HX3.out.size
  obtain ⟨sm1, ms1, hb1, he1, hx1, hn1⟩ := P13.out.list
  obtain ⟨sm2, ms2, hb2, he2, hx2, hn2⟩ := P23.out.list
  have HR1 := Lib.hid (ref_calls he1 he2 hx1 hx2 P13.out.play.ok.sorted P23.out.play.ok.sorted (by omega) (by omega))
  have HSS := Lib.hid (show ∀ W, Ext W3 W → W.cell? ⟨M1, 0, none⟩ = some (.slice sm1.a ms1.length sm1.c) ∧ W.cell? ⟨M2, 0, none⟩ = some (.slice sm2.a ms2.length sm2.c) from fun W hW => ⟨(hb1.ext hW).cell 0, (hb2.ext hW).cell 0⟩)
  clear hb1 he1 hx1 hn1 hb2 he2 hx2 hn2
  refine wpIn_onlyM (wpIn_wide.2 ?_)
  refine wp_region_held_drew (S := (fun w' => Ext W3 w')) (by kernel_rfl) (((Ext.refl W3).drew)) (fun hHeld => ?_)
  refine held_on (i := 0) (d := (some 41)) (v := ?_) rfl rfl (by kernel_rfl) (by kernel_rfl) (by kernel_rfl) (fun _ _ _ h => h) (by rfl) hHeld ?_ ?_
  rotate_left
  focus (intro w hSw; have hSc := HSS.out w hSw; clear hSw; go_simp; first | done | with_reducible rfl)
  try simp only [Act.put, List.setIfInBounds_toArray, List.set_cons_zero, List.set_cons_succ]
  refine held_on (i := 1) (d := (some 42)) (v := ?_) rfl rfl (by kernel_rfl) (by kernel_rfl) (by kernel_rfl) (fun _ _ _ h => h) (by rfl) hHeld ?_ ?_
  rotate_left
  focus (intro w hSw; have hSc := HSS.out w hSw; clear hSw; go_simp; first | done | with_reducible rfl)
  try simp only [Act.put, List.setIfInBounds_toArray, List.set_cons_zero, List.set_cons_succ]
  refine held_on (i := 2) (d := (some 43)) (v := ?_) rfl rfl (by kernel_rfl) (by kernel_rfl) (by kernel_rfl) (fun _ _ _ h => h) (by rfl) hHeld ?_ ?_
  rotate_left
  focus (intro w hSw; have hSc := HSS.out w hSw; clear hSw; go_simp; first | done | with_reducible rfl)
  try simp only [Act.put, List.setIfInBounds_toArray, List.set_cons_zero, List.set_cons_succ]
  refine held_on (i := 3) (d := (some 44)) (v := ?_) rfl rfl (by kernel_rfl) (by kernel_rfl) (by kernel_rfl) (fun _ _ _ h => h) (by rfl) hHeld ?_ ?_
  rotate_left
  focus (intro w hSw; have hSc := HSS.out w hSw; clear hSw; go_simp; first | done | with_reducible rfl)
  try simp only [Act.put, List.setIfInBounds_toArray, List.set_cons_zero, List.set_cons_succ]
  refine held_on (i := 4) (d := (some 45)) (v := ?_) rfl rfl (by kernel_rfl) (by kernel_rfl) (by kernel_rfl) (fun _ _ _ h => h) (by rfl) hHeld ?_ ?_
  rotate_left
  focus (intro w hSw; have hSc := HSS.out w hSw; clear hSw; go_simp; first | done | with_reducible rfl)
  try simp only [Act.put, List.setIfInBounds_toArray, List.set_cons_zero, List.set_cons_succ]
  refine held_on (i := 5) (d := (some 46)) (v := ?_) rfl rfl (by kernel_rfl) (by kernel_rfl) (by kernel_rfl) (fun _ _ _ h => h) (by rfl) hHeld ?_ ?_
  rotate_left
  focus (intro w hSw; have hSc := HSS.out w hSw; clear hSw; go_simp; first | done | with_reducible rfl)
  try simp only [Act.put, List.setIfInBounds_toArray, List.set_cons_zero, List.set_cons_succ]
  refine held_on (i := 6) (d := (some 47)) (v := ?_) rfl rfl (by kernel_rfl) (by kernel_rfl) (by kernel_rfl) (fun _ _ _ h => h) (by rfl) hHeld ?_ ?_
  rotate_left
  focus (intro w hSw; have hSc := HSS.out w hSw; clear hSw; go_simp; first | done | with_reducible rfl)
  try simp only [Act.put, List.setIfInBounds_toArray, List.set_cons_zero, List.set_cons_succ]
  refine held_on (i := 7) (d := (some 48)) (v := ?_) rfl rfl (by kernel_rfl) (by kernel_rfl) (by kernel_rfl) (fun _ _ _ h => h) (by rfl) hHeld ?_ ?_
  rotate_left
  focus (intro w hSw; have hSc := HSS.out w hSw; clear hSw; go_simp; first | done | with_reducible rfl)
  try simp only [Act.put, List.setIfInBounds_toArray, List.set_cons_zero, List.set_cons_succ]
  refine held_call (i := 8) (by kernel_rfl) rfl (by rfl) (fun K hK => ?_)
  go_simp
  (refine (HR1.out _ hHeld).mono ?_; rintro e w4 ⟨s8, zs, rfl, hz8, hx4, hs8⟩; have HX34 := Lib.hid (hHeld.trans hx4); have HZ8 := Lib.hid hz8; have HS8 := Lib.hid hs8; clear hz8 hx4 hs8)
  refine hK.out _ _ (HX34.out) (fun hHeld => ?_)
  clear hK K
  try simp only [Act.put, List.setIfInBounds_toArray, List.set_cons_zero, List.set_cons_succ]
  refine held_on (i := 9) (d := (some 12)) (v := ?_) rfl rfl (by kernel_rfl) (by kernel_rfl) (by kernel_rfl) (fun _ _ _ h => h) (by rfl) hHeld ?_ ?_
  rotate_left
  focus (intro w hSw; have hSc := HSS.out w hSw; clear hSw; go_simp; first | done | with_reducible rfl)
  try simp only [Act.put, List.setIfInBounds_toArray, List.set_cons_zero, List.set_cons_succ]
  refine wpAnyH_done (by kernel_rfl) ?_ _
  refine onlyM_mk ?_
  obtain ⟨al, hal⟩ : ∃ al, chg (entsT T1) (entsT T2) = al := ⟨_, rfl⟩
  rw [hal] at HZ8
  have hzl : zs.length = al.length := by rw [← HZ8.out, List.length_map]
  have hall : al.length ≤ 1000000 := by
    rw [← hal]
    have h1 := chg_len (entsT T1) (entsT T2)
    have h2 := P13.out.few
    have h3 := P23.out.few
    omega
  have hT1 := (P13.out.ext HX34.out).play.tree
  have hT2 := (P23.out.ext HX34.out).play.tree
  have HT := Lib.hid (show IsT w4 (NH _ w4) T1 ∧ IsT w4 (NH _ w4) T2 ∧ OkR T1 ∧ OkR T2 ∧ (entsT T1).length ≤ 500000 ∧ (entsT T2).length ≤ 500000 ∧ rootV T1 = .pointer p1 ∧ rootV T2 = .pointer p2 ∧ chg (entsT T1) (entsT T2) = al from ⟨hT1, hT2, P13.out.play.ok, P23.out.play.ok, by have := P13.out.few; omega, by have := P23.out.few; omega, P13.out.root, P23.out.root, hal⟩)
  have c1 : w4.cell? ⟨w1.heap.size, 0, none⟩ = some (.pointer p1) := (HBT3.out.ext HX34.out).cell 0
  have c2 : w4.cell? ⟨w2.heap.size, 0, none⟩ = some (.pointer p2) := (HBU3.out.ext HX34.out).cell 0
  have l1 := (HBT3.out.ext HX34.out).lt
  have l2 := (HBU3.out.ext HX34.out).lt
  have HF4 := Lib.hid (HF3.out.ext HX34.out)
  have HX4 := Lib.hid (HX3.out.trans HX34.out)
  have HZL := Lib.hid hzl
  have hdf := diff_any w4 T1 T2
  unfold DiffPost at hdf
  rw [treeV, treeV, P13.out.root, P23.out.root] at hdf
  have HDF := Lib.hid hdf
  have hs4 := HX4.out.size
  clear hHeld hal hT1 hT2 hdf hzl
  gi_wp2_with fail
  refine ⟨trivial, ?_⟩
  refine (callsIn_wide.2 HDF.out).mono ?_
  rintro e w5 ⟨rfl, hx5, hbt, hbu⟩
  have n5 := HNI.out w5 #[.pointer (some ⟨w4.heap.size, 0, none⟩), .pointer (some ⟨w4.heap.size + 1, 0, none⟩)]
  have hlbu := hbu.lt
  have hx6 := (Ext.refl w5).alloc #[.slice none 0 0] 131
  have HB5 := Lib.hid (show Blk w5 w4.heap.size 30 #[.pointer p1] ∧ Blk w5 (w4.heap.size + 1) 30 #[.pointer p2] from ⟨hbt, hbu⟩)
  have HL6 := Lib.hid (Blk.new w5 131 #[.slice none 0 0])
  have HX5 := Lib.hid hx5
  have HX56 := Lib.hid hx6
  have HF6 := Lib.hid ((HF4.out.ext hx5).ext hx6)
  have hz6 : w5.heap.size + 1 ≤ (w5.alloc (.cells #[.slice none 0 0] 131)).heap.size := by simp
  have hs5 := hx5.size
  clear hx5 hbt hbu hx6 c1 c2 l1 l2
  gi_wp2_with fail
  generalize w5.alloc (.cells #[.slice none 0 0] 131) = w6 at *
  have HSE := Lib.hid (show ∀ W, Agree (Lt w5.heap.size) w5 W → w5.heap.size ≤ W.heap.size → SeqC3 Try.prog 129 #[.pointer (some ⟨w4.heap.size, 0, none⟩), .pointer (some ⟨w4.heap.size + 1, 0, none⟩)] encC (DiffK (Lt w4.heap.size) (Lt w4.heap.size) w4.heap.size) (fun lo => DiffG al lo) (fun xs => xs.map CE.c = al) (fun pre => pre.map CE.c <+: al) W from fun W hA hz => by
    obtain ⟨t1, t2, o1, o2, n1, n2, r1, r2, ha⟩ := HT.out
    have hA4 : Agree (Lt w4.heap.size) w4 W := (HX5.out.agree fun _ h => h).trans (hA.mono fun b hb => by have hb : b < w4.heap.size := hb; show b < w5.heap.size; omega)
    have := diff_seq (w0 := W) (F := Lt w4.heap.size) (F' := Lt w4.heap.size) (B := w4.heap.size) ((t1.mono (G := Lt w4.heap.size) fun b hb => hb.1).agree hA4) ((t2.mono (G := Lt w4.heap.size) fun b hb => hb.1).agree hA4) (fun b hb => by have hb : b < w4.heap.size := hb; omega) (fun b hb => by have hb : b < w4.heap.size := hb; omega) o1 o2 n1 n2 (by rw [r1]; exact HB5.out.1.agree hA (by show _ < _; omega)) (by rw [r2]; exact HB5.out.2.agree hA hlbu)
    rwa [ha] at this)
  have hsq1 := HSE.out w6 (HX56.out.agree fun _ h => h) (by omega)
  have HSQ := Lib.hid hsq1
  have hL1 : w5.heap.size < w6.heap.size := by omega
  clear hsq1
  refine wpIn_rangeC3_block (gf := 129) (lb := #[.pointer (some ⟨w4.heap.size, 0, none⟩), .pointer (some ⟨w4.heap.size + 1, 0, none⟩)]) rfl (enters_of Try.func129 (by kernel_rfl) rfl) HSQ.out (Agree.refl _) (Nat.le_refl _)
    (fun b hb => hb.elim (fun (h : b < w4.heap.size) => by omega) (fun h => h.elim (fun (h : b < w4.heap.size) => by omega) (fun h => by omega))) (fun _ => rfl)
    (fun pre C D W => CollC w6 w5.heap.size pre C D W ∧ (few < 0 ∨ (pre.length : Int) ≤ few)) (EarlyX w6 w5.heap.size few) (fun b => b = w5.heap.size)
    (fun b hb => ⟨by omega, fun h => h.elim (fun (h : b < w4.heap.size) => by omega) (fun h => h.elim (fun (h : b < w4.heap.size) => by omega) (fun h => by omega))⟩)
    (fun h k => ⟨h.1.turn hL1 k, h.2⟩) (fun h k => by obtain ⟨pre', x, C, h1, h2, h3⟩ := h; exact ⟨pre', x, C, h1, h2, h3.turn hL1 k⟩) (fun W hW hz => ⟨CollC.start HL6.out hW hz, by by_cases h : few < 0; exact .inl h; exact .inr (by show ((0 : Nat) : Int) ≤ few; omega)⟩) ?round ?fin
  case round =>
    rintro pre C D D1 x W0' W1 ⟨hcoll, hfw⟩ hlt hsz hnL hx01 hD1 hD1l hCD hG
    obtain ⟨⟨s, rfl, hblk, hown⟩, hv, hst, hsz', hdis, hdlo⟩ := id hcoll
    have hpl' : pre.length < 1000000 := by
      have := (List.getElem?_eq_some_iff.1 hG.at_).1
      omega
    have hb3 := Blk.new W1 134 x.cells
    have hx3 : Ext W1 (W1.alloc (.cells x.cells 134)) := (Ext.refl W1).alloc _ _
    have HB3 := Lib.hid hb3
    have HX3' := Lib.hid hx3
    have HI := Lib.hid hcoll
    have HBLK' := Lib.hid hblk
    have HOWN := Lib.hid hown
    have HX01 := Lib.hid hx01
    have HD1 := Lib.hid hD1
    have HD1L := Lib.hid hD1l
    have HCD := Lib.hid hCD
    have HV := Lib.hid hG.val
    have HFW := Lib.hid hfw
    clear hfw
    clear hb3 hx3 hblk hown hv hst hdis hdlo hx01 hD1 hD1l hCD hG hnL hlt hcoll
    gi_wp2_with fail
    refine ⟨HX3'.out, fun W3' k3 => ?_⟩
    have hs1W := HX01.out.size
    have h13 : St (fun b => b = w6.heap.size + 1) W1 W3' := (HX3'.out.st _).trans k3
    have h03 : St (fun b => D b ∨ b = w6.heap.size + 1) W0' W3' := (HX01.out.mono fun i _ hi => .inl hi).trans (h13.mono fun i _ hi => .inr hi)
    have hbv := k3.blk HB3.out (by omega)
    obtain ⟨c0, c1, c2, c3, c4, c5, c6, c7, c8, c9, c10, c11, c12, c13, c14⟩ := hbv.c15
    have lv := hbv.lt
    have hrow0 : ∀ b, s.row = some b → w6.heap.size + 2 ≤ b ∧ b < W0'.heap.size := fun b hb => own_row HOWN.out hb
    have hnd : ∀ b, (b = w5.heap.size ∨ s.row = some b) → ¬ (D b ∨ b = w6.heap.size + 1) := fun b hb e => e.elim (HI.out.dis b hb) (fun e => by
      rcases hb with h | h
      · omega
      · have := (hrow0 b h).1; omega)
    have hL3 := h03.blk HBLK'.out (hnd _ (.inl rfl))
    have cL : W3'.cell? ⟨w5.heap.size, 0, none⟩ = some (.slice s.a pre.length s.c) := hL3.cell 0
    have fL := hL3.frozen 0
    have lL := hL3.lt
    have hx34 : Ext W3' (W3'.alloc (.cells x.cells 134)) := (Ext.refl W3').alloc _ _
    have hown4 := own_agree (own_agree HOWN.out h03.agree fun b hb => ⟨(hrow0 b hb).2, hnd b (.inr hb)⟩) (hx34.agree fun b (hb : b < W3'.heap.size) => hb) (fun b hb => by have := (hrow0 b hb).2; have := h03.size; omega)
    have h63 : pre.length + 1 ≤ maxLen := by unfold maxLen; omega
    have hby : (pre.length + 1) * 208 ≤ 140737488355328 := by omega
    have hs03 := h03.size
    have hbase : w6.heap.size + 2 ≤ (W3'.alloc (.cells x.cells 134)).heap.size := by rw [World.size_alloc]; omega
    have HV3 := Lib.hid ((HV.out.agree (h13.agree.mono fun b hb => ⟨hb.2.1, fun e => hb.2.2 (.inr (.inr e))⟩)).mono (G := fun b => w6.heap.size + 2 ≤ b ∧ b < W3'.heap.size ∧ ¬ (D1 b ∨ ((b = w5.heap.size ∨ s.row = some b) ∨ b = w6.heap.size + 1))) fun b hb => ⟨hb.1, Nat.lt_of_lt_of_le hb.2.1 h13.size, hb.2.2⟩)
    have hs13 := h13.size
    have H03 := Lib.hid h03
    have HX34' := Lib.hid hx34
    have HOWN4 := Lib.hid hown4
    have HBN := Lib.hid (Blk.new W3' 134 x.cells)
    have hneL : s.row ≠ some (w5.heap.size) := fun e => by have := (hrow0 _ e).1; omega
    have fLX := Lib.hid ((hx34.frozen (o := 0) lL).trans fL)
    have HD13 := Lib.hid (show ∀ b, D1 b → w6.heap.size + 2 ≤ b ∧ b < W3'.heap.size from fun b hb => ⟨(HD1L.out b hb).1, Nat.lt_of_lt_of_le (HD1L.out b hb).2 hs13⟩)
    have hneW : ¬ w5.heap.size = W3'.heap.size := by omega
    have hfb := h03.blk (HI.out.st.blk HF6.out (by omega)) (fun e => e.elim (fun e => by have := HI.out.dlo _ e; omega) (by omega))
    have cfew : W3'.cell? ⟨w.heap.size, 0, none⟩ = some (.int .i64 few) := hfb.cell 0
    have lfew := hfb.lt
    have HCO3 := Lib.hid (collC_move hL1 HI.out h03 HD1.out (fun b hb => (HD1L.out b hb).1) HCD.out)
    clear hfb
    clear k3 h03 h13 hbv hL3 hx34 hown4 hnd fL
    by_cases hfe : (pre.length : Int) = few
    · have hfe' : ((pre.length : Int) == few) = true := beq_iff_eq.2 hfe
      have HFE := Lib.hid hfe
      clear hfe
      gi_wp2_with fail
      exact ⟨St.refl _ _, rfl, pre, x, _, rfl, HFE.out, HCO3.out⟩
    have hfe' : ((pre.length : Int) == few) = false := beq_eq_false_iff_ne.2 hfe
    have HFE := Lib.hid hfe
    clear hfe
    gi_wp2_with (gi_at_builtin; refine wpListIn_append_x _ rfl (.tmp 61) (.tmp 63) 131 rfl (w6.heap.size + 2) 134 i0 _ 15 208 Try.underlying131 hi hz0 hz1 hz2 rfl (by decide) s pre.length (flatC pre) rfl HOWN4.out (fun b => b = W3'.heap.size) ⟨some ⟨W3'.heap.size, 0, none⟩, 1⟩ 1 x.cells.toList rfl (Rd.block HBN.out (by decide) rfl) (ce_one x) h63 hby hbase ?_; intro s3 w5x hown5 hwr5 hs5; have h5 := hwr5.cell0 (o := 0) HX34'.out hneL lL; have cL5 : w5x.cell? ⟨w5.heap.size, 0, none⟩ = some (.slice s.a pre.length s.c) := h5.1.trans cL; have lL5 := h5.2; have fL5 : w5x.frozen? ⟨w5.heap.size, 0, none⟩ = false := (hwr5.fz _ _).trans (fLX.out); have HO5 := Lib.hid hown5; have HW5 := Lib.hid hwr5; have HS5 := Lib.hid hs5; clear hown5 hwr5 hs5 h5)
    obtain ⟨e1, e2, e3, e4⟩ := collC_end hL1 HI.out HBLK'.out HOWN.out H03.out HD1.out HD13.out HCD.out HV3.out HX34'.out HO5.out HW5.out HS5.out
    refine ⟨_, ⟨e1, ?_⟩, e2, e3, e4⟩
    rcases HFW.out with hq | hq
    · exact .inl hq
    · refine .inr ?_
      have h1 := HFE.out
      rw [List.length_append, List.length_singleton]
      omega
  case fin =>
    intro D Di W0e W hD hor hste hDi hDk
    obtain ⟨ys, C, hyc, hyl, hco, hway⟩ := early_ends hor
    have hco' := collC_move hL1 hco hste (fun b hb => .inl hb) hDi hco.dis
    obtain ⟨s', hblk, hgs⟩ := hco'.cs (by omega)
    have hst6 : St (fun b => b = w5.heap.size) w6 W := hco'.st
    have hszW := hst6.size
    have hfb := hst6.blk HF6.out (by omega)
    have hzW : CS W (Lt W.heap.size) s8 zs := ((HS8.out.agree9e ((HX5.out.trans HX56.out).agree fun _ h => h)).agree9e (hst6.agree.mono fun b (hb : b < w4.heap.size) => ⟨by omega, by omega⟩)).mono9 fun i (hi : i < w4.heap.size) => (show i < W.heap.size by omega)
    have HSW := Lib.hid (show ∀ W', Ext W W' → W'.cell? ⟨w.heap.size, 0, none⟩ = some (.int .i64 few) ∧ W'.cell? ⟨w5.heap.size, 0, none⟩ = some (.slice s'.a ys.length s'.c) from fun W' hb => ⟨(hfb.ext hb).cell 0, (hblk.ext hb).cell 0⟩)
    have HGW := Lib.hid hgs
    have HZW := Lib.hid hzW
    have HST6 := Lib.hid hst6
    have HDK := Lib.hid hDk
    have HDD := Lib.hid hD
    have HBLK := Lib.hid hblk
    have HYC := Lib.hid hyc
    have HWY := Lib.hid hway
    clear hor hste hDi hco hco' hgs hzW hst6 hDk hD hblk hyc hway hfb
    gi_wp2_with fail
    refine wpIn_meet9 (fun W' => Ext W W') [65, 66, 67, 68, 69, 70, 71, 72, 73, 74, 75, 76, 77, 78, 79] (80, .bool false) ?_ ?_
    · rcases HWY.out with hw | hw | ⟨hw, hlt⟩
      · have g0 : ¬ 0 ≤ few := by omega
        have g0' : decide (0 ≤ few) = false := decide_eq_false g0
        refine wpIn_wide.2 ?_
        refine wp_region_held_drew (S := (fun w' => Ext W w')) (by kernel_rfl) (((Ext.refl W).drew)) (fun hHeld => ?_)
        refine held_on (i := 0) (d := (some 65)) (v := ?_) rfl rfl (by kernel_rfl) (by kernel_rfl) (by kernel_rfl) (fun _ _ _ h => h) (by rfl) hHeld ?_ ?_
        rotate_left
        focus (intro w hSw; have hSc := HSW.out w hSw; clear hSw; go_simp; first | done | with_reducible rfl)
        try simp only [Act.put, List.setIfInBounds_toArray, List.set_cons_zero, List.set_cons_succ]
        refine held_on (i := 1) (d := (some 66)) (v := ?_) rfl rfl (by kernel_rfl) (by kernel_rfl) (by kernel_rfl) (fun _ _ _ h => h) (by rfl) hHeld ?_ ?_
        rotate_left
        focus (intro w hSw; have hSc := HSW.out w hSw; clear hSw; go_simp; first | done | with_reducible rfl)
        try simp only [Act.put, List.setIfInBounds_toArray, List.set_cons_zero, List.set_cons_succ]
        refine held_on (i := 2) (d := (some 67)) (v := ?_) rfl rfl (by kernel_rfl) (by kernel_rfl) (by kernel_rfl) (fun _ _ _ h => h) (by rfl) hHeld ?_ ?_
        rotate_left
        focus (intro w hSw; have hSc := HSW.out w hSw; clear hSw; go_simp; first | done | with_reducible rfl)
        try simp only [Act.put, List.setIfInBounds_toArray, List.set_cons_zero, List.set_cons_succ]
        refine held_off (i := 3) (d := (some 68)) rfl rfl (by kernel_rfl) (by kernel_rfl) (by kernel_rfl) (fun _ _ _ h => h) (by rfl) hHeld ?_
        try simp only [Act.put, List.setIfInBounds_toArray, List.set_cons_zero, List.set_cons_succ]
        refine held_off (i := 4) (d := (some 69)) rfl rfl (by kernel_rfl) (by kernel_rfl) (by kernel_rfl) (fun _ _ _ h => h) (by rfl) hHeld ?_
        try simp only [Act.put, List.setIfInBounds_toArray, List.set_cons_zero, List.set_cons_succ]
        refine held_off (i := 5) (d := (some 70)) rfl rfl (by kernel_rfl) (by kernel_rfl) (by kernel_rfl) (fun _ _ _ h => h) (by rfl) hHeld ?_
        try simp only [Act.put, List.setIfInBounds_toArray, List.set_cons_zero, List.set_cons_succ]
        refine held_off (i := 6) (d := (some 71)) rfl rfl (by kernel_rfl) (by kernel_rfl) (by kernel_rfl) (fun _ _ _ h => h) (by rfl) hHeld ?_
        try simp only [Act.put, List.setIfInBounds_toArray, List.set_cons_zero, List.set_cons_succ]
        refine held_on (i := 7) (d := (some 72)) (v := ?_) rfl rfl (by kernel_rfl) (by kernel_rfl) (by kernel_rfl) (fun _ _ _ h => h) (by rfl) hHeld ?_ ?_
        rotate_left
        focus (intro w hSw; have hSc := HSW.out w hSw; clear hSw; go_simp; first | done | with_reducible rfl)
        try simp only [Act.put, List.setIfInBounds_toArray, List.set_cons_zero, List.set_cons_succ]
        refine held_on (i := 8) (d := (some 73)) (v := ?_) rfl rfl (by kernel_rfl) (by kernel_rfl) (by kernel_rfl) (fun _ _ _ h => h) (by rfl) hHeld ?_ ?_
        rotate_left
        focus (intro w hSw; have hSc := HSW.out w hSw; clear hSw; go_simp; first | done | with_reducible rfl)
        try simp only [Act.put, List.setIfInBounds_toArray, List.set_cons_zero, List.set_cons_succ]
        refine held_off (i := 9) (d := (some 74)) rfl rfl (by kernel_rfl) (by kernel_rfl) (by kernel_rfl) (fun _ _ _ h => h) (by rfl) hHeld ?_
        try simp only [Act.put, List.setIfInBounds_toArray, List.set_cons_zero, List.set_cons_succ]
        refine held_off (i := 10) (d := (some 75)) rfl rfl (by kernel_rfl) (by kernel_rfl) (by kernel_rfl) (fun _ _ _ h => h) (by rfl) hHeld ?_
        try simp only [Act.put, List.setIfInBounds_toArray, List.set_cons_zero, List.set_cons_succ]
        refine held_off (i := 11) (d := (some 76)) rfl rfl (by kernel_rfl) (by kernel_rfl) (by kernel_rfl) (fun _ _ _ h => h) (by rfl) hHeld ?_
        try simp only [Act.put, List.setIfInBounds_toArray, List.set_cons_zero, List.set_cons_succ]
        refine held_off (i := 12) (d := (some 77)) rfl rfl (by kernel_rfl) (by kernel_rfl) (by kernel_rfl) (fun _ _ _ h => h) (by rfl) hHeld ?_
        try simp only [Act.put, List.setIfInBounds_toArray, List.set_cons_zero, List.set_cons_succ]
        refine held_off (i := 13) (d := (some 78)) rfl rfl (by kernel_rfl) (by kernel_rfl) (by kernel_rfl) (fun _ _ _ h => h) (by rfl) hHeld ?_
        try simp only [Act.put, List.setIfInBounds_toArray, List.set_cons_zero, List.set_cons_succ]
        refine held_off (i := 14) (d := (some 79)) rfl rfl (by kernel_rfl) (by kernel_rfl) (by kernel_rfl) (fun _ _ _ h => h) (by rfl) hHeld ?_
        try simp only [Act.put, List.setIfInBounds_toArray, List.set_cons_zero, List.set_cons_succ]
        refine held_on (i := 15) (d := (some 80)) (v := ?_) rfl rfl (by kernel_rfl) (by kernel_rfl) (by kernel_rfl) (fun _ _ _ h => h) (by rfl) hHeld ?_ ?_
        rotate_left
        focus (intro w hSw; have hSc := HSW.out w hSw; clear hSw; go_simp; first | done | with_reducible rfl)
        try simp only [Act.put, List.setIfInBounds_toArray, List.set_cons_zero, List.set_cons_succ]
        refine wpAnyH_done (by kernel_rfl) ?_ _
        refine onlyM_mk ⟨hHeld, by kernel_rfl, ?_⟩
        simp only [putT, List.map_cons, List.map_nil, List.cons_append, List.nil_append, List.setIfInBounds_toArray, List.set_cons_zero, List.set_cons_succ]
        kernel_rfl
      · by_cases g : 0 ≤ few
        · have g0' : decide (0 ≤ few) = true := decide_eq_true g
          have g1 : ¬ few < (zs.length : Int) := by rw [HZL.out]; omega
          have g1' : decide (few < (zs.length : Int)) = false := decide_eq_false g1
          refine wpIn_wide.2 ?_
          refine wp_region_held_drew (S := (fun w' => Ext W w')) (by kernel_rfl) (((Ext.refl W).drew)) (fun hHeld => ?_)
          refine held_on (i := 0) (d := (some 65)) (v := ?_) rfl rfl (by kernel_rfl) (by kernel_rfl) (by kernel_rfl) (fun _ _ _ h => h) (by rfl) hHeld ?_ ?_
          rotate_left
          focus (intro w hSw; have hSc := HSW.out w hSw; clear hSw; go_simp; first | done | with_reducible rfl)
          try simp only [Act.put, List.setIfInBounds_toArray, List.set_cons_zero, List.set_cons_succ]
          refine held_on (i := 1) (d := (some 66)) (v := ?_) rfl rfl (by kernel_rfl) (by kernel_rfl) (by kernel_rfl) (fun _ _ _ h => h) (by rfl) hHeld ?_ ?_
          rotate_left
          focus (intro w hSw; have hSc := HSW.out w hSw; clear hSw; go_simp; first | done | with_reducible rfl)
          try simp only [Act.put, List.setIfInBounds_toArray, List.set_cons_zero, List.set_cons_succ]
          refine held_on (i := 2) (d := (some 67)) (v := ?_) rfl rfl (by kernel_rfl) (by kernel_rfl) (by kernel_rfl) (fun _ _ _ h => h) (by rfl) hHeld ?_ ?_
          rotate_left
          focus (intro w hSw; have hSc := HSW.out w hSw; clear hSw; go_simp; first | done | with_reducible rfl)
          try simp only [Act.put, List.setIfInBounds_toArray, List.set_cons_zero, List.set_cons_succ]
          refine held_on (i := 3) (d := (some 68)) (v := ?_) rfl rfl (by kernel_rfl) (by kernel_rfl) (by kernel_rfl) (fun _ _ _ h => h) (by rfl) hHeld ?_ ?_
          rotate_left
          focus (intro w hSw; have hSc := HSW.out w hSw; clear hSw; go_simp; first | done | with_reducible rfl)
          try simp only [Act.put, List.setIfInBounds_toArray, List.set_cons_zero, List.set_cons_succ]
          refine held_on (i := 4) (d := (some 69)) (v := ?_) rfl rfl (by kernel_rfl) (by kernel_rfl) (by kernel_rfl) (fun _ _ _ h => h) (by rfl) hHeld ?_ ?_
          rotate_left
          focus (intro w hSw; have hSc := HSW.out w hSw; clear hSw; go_simp; first | done | with_reducible rfl)
          try simp only [Act.put, List.setIfInBounds_toArray, List.set_cons_zero, List.set_cons_succ]
          refine held_on (i := 5) (d := (some 70)) (v := ?_) rfl rfl (by kernel_rfl) (by kernel_rfl) (by kernel_rfl) (fun _ _ _ h => h) (by rfl) hHeld ?_ ?_
          rotate_left
          focus (intro w hSw; have hSc := HSW.out w hSw; clear hSw; go_simp; first | done | with_reducible rfl)
          try simp only [Act.put, List.setIfInBounds_toArray, List.set_cons_zero, List.set_cons_succ]
          refine held_on (i := 6) (d := (some 71)) (v := ?_) rfl rfl (by kernel_rfl) (by kernel_rfl) (by kernel_rfl) (fun _ _ _ h => h) (by rfl) hHeld ?_ ?_
          rotate_left
          focus (intro w hSw; have hSc := HSW.out w hSw; clear hSw; go_simp; first | done | with_reducible rfl)
          try simp only [Act.put, List.setIfInBounds_toArray, List.set_cons_zero, List.set_cons_succ]
          refine held_on (i := 7) (d := (some 72)) (v := ?_) rfl rfl (by kernel_rfl) (by kernel_rfl) (by kernel_rfl) (fun _ _ _ h => h) (by rfl) hHeld ?_ ?_
          rotate_left
          focus (intro w hSw; have hSc := HSW.out w hSw; clear hSw; go_simp; first | done | with_reducible rfl)
          try simp only [Act.put, List.setIfInBounds_toArray, List.set_cons_zero, List.set_cons_succ]
          refine held_on (i := 8) (d := (some 73)) (v := ?_) rfl rfl (by kernel_rfl) (by kernel_rfl) (by kernel_rfl) (fun _ _ _ h => h) (by rfl) hHeld ?_ ?_
          rotate_left
          focus (intro w hSw; have hSc := HSW.out w hSw; clear hSw; go_simp; first | done | with_reducible rfl)
          try simp only [Act.put, List.setIfInBounds_toArray, List.set_cons_zero, List.set_cons_succ]
          refine held_off (i := 9) (d := (some 74)) rfl rfl (by kernel_rfl) (by kernel_rfl) (by kernel_rfl) (fun _ _ _ h => h) (by rfl) hHeld ?_
          try simp only [Act.put, List.setIfInBounds_toArray, List.set_cons_zero, List.set_cons_succ]
          refine held_off (i := 10) (d := (some 75)) rfl rfl (by kernel_rfl) (by kernel_rfl) (by kernel_rfl) (fun _ _ _ h => h) (by rfl) hHeld ?_
          try simp only [Act.put, List.setIfInBounds_toArray, List.set_cons_zero, List.set_cons_succ]
          refine held_off (i := 11) (d := (some 76)) rfl rfl (by kernel_rfl) (by kernel_rfl) (by kernel_rfl) (fun _ _ _ h => h) (by rfl) hHeld ?_
          try simp only [Act.put, List.setIfInBounds_toArray, List.set_cons_zero, List.set_cons_succ]
          refine held_off (i := 12) (d := (some 77)) rfl rfl (by kernel_rfl) (by kernel_rfl) (by kernel_rfl) (fun _ _ _ h => h) (by rfl) hHeld ?_
          try simp only [Act.put, List.setIfInBounds_toArray, List.set_cons_zero, List.set_cons_succ]
          refine held_off (i := 13) (d := (some 78)) rfl rfl (by kernel_rfl) (by kernel_rfl) (by kernel_rfl) (fun _ _ _ h => h) (by rfl) hHeld ?_
          try simp only [Act.put, List.setIfInBounds_toArray, List.set_cons_zero, List.set_cons_succ]
          refine held_off (i := 14) (d := (some 79)) rfl rfl (by kernel_rfl) (by kernel_rfl) (by kernel_rfl) (fun _ _ _ h => h) (by rfl) hHeld ?_
          try simp only [Act.put, List.setIfInBounds_toArray, List.set_cons_zero, List.set_cons_succ]
          refine held_on (i := 15) (d := (some 80)) (v := ?_) rfl rfl (by kernel_rfl) (by kernel_rfl) (by kernel_rfl) (fun _ _ _ h => h) (by rfl) hHeld ?_ ?_
          rotate_left
          focus (intro w hSw; have hSc := HSW.out w hSw; clear hSw; go_simp; first | done | with_reducible rfl)
          try simp only [Act.put, List.setIfInBounds_toArray, List.set_cons_zero, List.set_cons_succ]
          refine wpAnyH_done (by kernel_rfl) ?_ _
          refine onlyM_mk ⟨hHeld, by kernel_rfl, ?_⟩
          simp only [putT, List.map_cons, List.map_nil, List.cons_append, List.nil_append, List.setIfInBounds_toArray, List.set_cons_zero, List.set_cons_succ]
          kernel_rfl
        · have g0' : decide (0 ≤ few) = false := decide_eq_false g
          refine wpIn_wide.2 ?_
          refine wp_region_held_drew (S := (fun w' => Ext W w')) (by kernel_rfl) (((Ext.refl W).drew)) (fun hHeld => ?_)
          refine held_on (i := 0) (d := (some 65)) (v := ?_) rfl rfl (by kernel_rfl) (by kernel_rfl) (by kernel_rfl) (fun _ _ _ h => h) (by rfl) hHeld ?_ ?_
          rotate_left
          focus (intro w hSw; have hSc := HSW.out w hSw; clear hSw; go_simp; first | done | with_reducible rfl)
          try simp only [Act.put, List.setIfInBounds_toArray, List.set_cons_zero, List.set_cons_succ]
          refine held_on (i := 1) (d := (some 66)) (v := ?_) rfl rfl (by kernel_rfl) (by kernel_rfl) (by kernel_rfl) (fun _ _ _ h => h) (by rfl) hHeld ?_ ?_
          rotate_left
          focus (intro w hSw; have hSc := HSW.out w hSw; clear hSw; go_simp; first | done | with_reducible rfl)
          try simp only [Act.put, List.setIfInBounds_toArray, List.set_cons_zero, List.set_cons_succ]
          refine held_on (i := 2) (d := (some 67)) (v := ?_) rfl rfl (by kernel_rfl) (by kernel_rfl) (by kernel_rfl) (fun _ _ _ h => h) (by rfl) hHeld ?_ ?_
          rotate_left
          focus (intro w hSw; have hSc := HSW.out w hSw; clear hSw; go_simp; first | done | with_reducible rfl)
          try simp only [Act.put, List.setIfInBounds_toArray, List.set_cons_zero, List.set_cons_succ]
          refine held_off (i := 3) (d := (some 68)) rfl rfl (by kernel_rfl) (by kernel_rfl) (by kernel_rfl) (fun _ _ _ h => h) (by rfl) hHeld ?_
          try simp only [Act.put, List.setIfInBounds_toArray, List.set_cons_zero, List.set_cons_succ]
          refine held_off (i := 4) (d := (some 69)) rfl rfl (by kernel_rfl) (by kernel_rfl) (by kernel_rfl) (fun _ _ _ h => h) (by rfl) hHeld ?_
          try simp only [Act.put, List.setIfInBounds_toArray, List.set_cons_zero, List.set_cons_succ]
          refine held_off (i := 5) (d := (some 70)) rfl rfl (by kernel_rfl) (by kernel_rfl) (by kernel_rfl) (fun _ _ _ h => h) (by rfl) hHeld ?_
          try simp only [Act.put, List.setIfInBounds_toArray, List.set_cons_zero, List.set_cons_succ]
          refine held_off (i := 6) (d := (some 71)) rfl rfl (by kernel_rfl) (by kernel_rfl) (by kernel_rfl) (fun _ _ _ h => h) (by rfl) hHeld ?_
          try simp only [Act.put, List.setIfInBounds_toArray, List.set_cons_zero, List.set_cons_succ]
          refine held_on (i := 7) (d := (some 72)) (v := ?_) rfl rfl (by kernel_rfl) (by kernel_rfl) (by kernel_rfl) (fun _ _ _ h => h) (by rfl) hHeld ?_ ?_
          rotate_left
          focus (intro w hSw; have hSc := HSW.out w hSw; clear hSw; go_simp; first | done | with_reducible rfl)
          try simp only [Act.put, List.setIfInBounds_toArray, List.set_cons_zero, List.set_cons_succ]
          refine held_on (i := 8) (d := (some 73)) (v := ?_) rfl rfl (by kernel_rfl) (by kernel_rfl) (by kernel_rfl) (fun _ _ _ h => h) (by rfl) hHeld ?_ ?_
          rotate_left
          focus (intro w hSw; have hSc := HSW.out w hSw; clear hSw; go_simp; first | done | with_reducible rfl)
          try simp only [Act.put, List.setIfInBounds_toArray, List.set_cons_zero, List.set_cons_succ]
          refine held_off (i := 9) (d := (some 74)) rfl rfl (by kernel_rfl) (by kernel_rfl) (by kernel_rfl) (fun _ _ _ h => h) (by rfl) hHeld ?_
          try simp only [Act.put, List.setIfInBounds_toArray, List.set_cons_zero, List.set_cons_succ]
          refine held_off (i := 10) (d := (some 75)) rfl rfl (by kernel_rfl) (by kernel_rfl) (by kernel_rfl) (fun _ _ _ h => h) (by rfl) hHeld ?_
          try simp only [Act.put, List.setIfInBounds_toArray, List.set_cons_zero, List.set_cons_succ]
          refine held_off (i := 11) (d := (some 76)) rfl rfl (by kernel_rfl) (by kernel_rfl) (by kernel_rfl) (fun _ _ _ h => h) (by rfl) hHeld ?_
          try simp only [Act.put, List.setIfInBounds_toArray, List.set_cons_zero, List.set_cons_succ]
          refine held_off (i := 12) (d := (some 77)) rfl rfl (by kernel_rfl) (by kernel_rfl) (by kernel_rfl) (fun _ _ _ h => h) (by rfl) hHeld ?_
          try simp only [Act.put, List.setIfInBounds_toArray, List.set_cons_zero, List.set_cons_succ]
          refine held_off (i := 13) (d := (some 78)) rfl rfl (by kernel_rfl) (by kernel_rfl) (by kernel_rfl) (fun _ _ _ h => h) (by rfl) hHeld ?_
          try simp only [Act.put, List.setIfInBounds_toArray, List.set_cons_zero, List.set_cons_succ]
          refine held_off (i := 14) (d := (some 79)) rfl rfl (by kernel_rfl) (by kernel_rfl) (by kernel_rfl) (fun _ _ _ h => h) (by rfl) hHeld ?_
          try simp only [Act.put, List.setIfInBounds_toArray, List.set_cons_zero, List.set_cons_succ]
          refine held_on (i := 15) (d := (some 80)) (v := ?_) rfl rfl (by kernel_rfl) (by kernel_rfl) (by kernel_rfl) (fun _ _ _ h => h) (by rfl) hHeld ?_ ?_
          rotate_left
          focus (intro w hSw; have hSc := HSW.out w hSw; clear hSw; go_simp; first | done | with_reducible rfl)
          try simp only [Act.put, List.setIfInBounds_toArray, List.set_cons_zero, List.set_cons_succ]
          refine wpAnyH_done (by kernel_rfl) ?_ _
          refine onlyM_mk ⟨hHeld, by kernel_rfl, ?_⟩
          simp only [putT, List.map_cons, List.map_nil, List.cons_append, List.nil_append, List.setIfInBounds_toArray, List.set_cons_zero, List.set_cons_succ]
          kernel_rfl
      · obtain ⟨m, hm⟩ : ∃ m, ys.length = m := ⟨_, rfl⟩
        have HM := Lib.hid hm
        rw [hm] at hw hlt HSW
        clear hm
        subst hw
        have hmz : m < zs.length := by rw [HZL.out]; exact hlt
        have g0 : 0 ≤ (m : Int) := by omega
        have g0' : decide (0 ≤ (m : Int)) = true := decide_eq_true g0
        have g1 : (m : Int) < (zs.length : Int) := by omega
        have g1' : decide ((m : Int) < (zs.length : Int)) = true := decide_eq_true g1
        obtain ⟨x, hxj⟩ : ∃ x, zs[m]? = some x := ⟨_, List.getElem?_eq_getElem hmz⟩
        obtain ⟨b8, o8, ha, hbl, hlc, hcm, -⟩ := HZW.out.at hxj
        obtain ⟨sa, sc⟩ := s8
        dsimp only at ha hlc hcm
        subst ha
        have htk : (zs.take m).length = m := by rw [List.length_take]; omega
        have hsm : ∀ W', Ext W W' → Calls Try.prog 84 #[.slice s'.a m s'.c, .slice (some ⟨b8, o8, none⟩) m sc] W' fun e w' => e = .returned (.bool true) ∧ Ext W' w' := fun W' hb => by
          have := same9_refl (HGW.out.ext9 hb) ((HZW.out.pre9 (n := m) (by omega) (by omega)).ext9 hb) (by rw [HYC.out, HM.out, List.map_take, HZ8.out])
          rw [HM.out, htk] at this
          exact this
        have HSM := Lib.hid hsm
        have gc : (m : Int) ≤ (sc : Int) := by omega
        have gn : (m : Int).toNat = m := by omega
        clear hsm htk hxj
        refine wpIn_wide.2 ?_
        refine wp_region_held_drew (S := (fun w' => Ext W w')) (by kernel_rfl) (((Ext.refl W).drew)) (fun hHeld => ?_)
        refine held_on (i := 0) (d := (some 65)) (v := ?_) rfl rfl (by kernel_rfl) (by kernel_rfl) (by kernel_rfl) (fun _ _ _ h => h) (by rfl) hHeld ?_ ?_
        rotate_left
        focus (intro w hSw; have hSc := HSW.out w hSw; clear hSw; go_simp; first | done | with_reducible rfl)
        try simp only [Act.put, List.setIfInBounds_toArray, List.set_cons_zero, List.set_cons_succ]
        refine held_on (i := 1) (d := (some 66)) (v := ?_) rfl rfl (by kernel_rfl) (by kernel_rfl) (by kernel_rfl) (fun _ _ _ h => h) (by rfl) hHeld ?_ ?_
        rotate_left
        focus (intro w hSw; have hSc := HSW.out w hSw; clear hSw; go_simp; first | done | with_reducible rfl)
        try simp only [Act.put, List.setIfInBounds_toArray, List.set_cons_zero, List.set_cons_succ]
        refine held_on (i := 2) (d := (some 67)) (v := ?_) rfl rfl (by kernel_rfl) (by kernel_rfl) (by kernel_rfl) (fun _ _ _ h => h) (by rfl) hHeld ?_ ?_
        rotate_left
        focus (intro w hSw; have hSc := HSW.out w hSw; clear hSw; go_simp; first | done | with_reducible rfl)
        try simp only [Act.put, List.setIfInBounds_toArray, List.set_cons_zero, List.set_cons_succ]
        refine held_on (i := 3) (d := (some 68)) (v := ?_) rfl rfl (by kernel_rfl) (by kernel_rfl) (by kernel_rfl) (fun _ _ _ h => h) (by rfl) hHeld ?_ ?_
        rotate_left
        focus (intro w hSw; have hSc := HSW.out w hSw; clear hSw; go_simp; first | done | with_reducible rfl)
        try simp only [Act.put, List.setIfInBounds_toArray, List.set_cons_zero, List.set_cons_succ]
        refine held_on (i := 4) (d := (some 69)) (v := ?_) rfl rfl (by kernel_rfl) (by kernel_rfl) (by kernel_rfl) (fun _ _ _ h => h) (by rfl) hHeld ?_ ?_
        rotate_left
        focus (intro w hSw; have hSc := HSW.out w hSw; clear hSw; go_simp; first | done | with_reducible rfl)
        try simp only [Act.put, List.setIfInBounds_toArray, List.set_cons_zero, List.set_cons_succ]
        refine held_on (i := 5) (d := (some 70)) (v := ?_) rfl rfl (by kernel_rfl) (by kernel_rfl) (by kernel_rfl) (fun _ _ _ h => h) (by rfl) hHeld ?_ ?_
        rotate_left
        focus (intro w hSw; have hSc := HSW.out w hSw; clear hSw; go_simp; first | done | with_reducible rfl)
        try simp only [Act.put, List.setIfInBounds_toArray, List.set_cons_zero, List.set_cons_succ]
        refine held_on (i := 6) (d := (some 71)) (v := ?_) rfl rfl (by kernel_rfl) (by kernel_rfl) (by kernel_rfl) (fun _ _ _ h => h) (by rfl) hHeld ?_ ?_
        rotate_left
        focus (intro w hSw; have hSc := HSW.out w hSw; clear hSw; go_simp; first | done | with_reducible rfl)
        try simp only [Act.put, List.setIfInBounds_toArray, List.set_cons_zero, List.set_cons_succ]
        refine held_on (i := 7) (d := (some 72)) (v := ?_) rfl rfl (by kernel_rfl) (by kernel_rfl) (by kernel_rfl) (fun _ _ _ h => h) (by rfl) hHeld ?_ ?_
        rotate_left
        focus (intro w hSw; have hSc := HSW.out w hSw; clear hSw; go_simp; first | done | with_reducible rfl)
        try simp only [Act.put, List.setIfInBounds_toArray, List.set_cons_zero, List.set_cons_succ]
        refine held_on (i := 8) (d := (some 73)) (v := ?_) rfl rfl (by kernel_rfl) (by kernel_rfl) (by kernel_rfl) (fun _ _ _ h => h) (by rfl) hHeld ?_ ?_
        rotate_left
        focus (intro w hSw; have hSc := HSW.out w hSw; clear hSw; go_simp; first | done | with_reducible rfl)
        try simp only [Act.put, List.setIfInBounds_toArray, List.set_cons_zero, List.set_cons_succ]
        refine held_on (i := 9) (d := (some 74)) (v := ?_) rfl rfl (by kernel_rfl) (by kernel_rfl) (by kernel_rfl) (fun _ _ _ h => h) (by rfl) hHeld ?_ ?_
        rotate_left
        focus (intro w hSw; have hSc := HSW.out w hSw; clear hSw; go_simp; first | done | with_reducible rfl)
        try simp only [Act.put, List.setIfInBounds_toArray, List.set_cons_zero, List.set_cons_succ]
        refine held_on (i := 10) (d := (some 75)) (v := ?_) rfl rfl (by kernel_rfl) (by kernel_rfl) (by kernel_rfl) (fun _ _ _ h => h) (by rfl) hHeld ?_ ?_
        rotate_left
        focus (intro w hSw; have hSc := HSW.out w hSw; clear hSw; go_simp; first | done | with_reducible rfl)
        try simp only [Act.put, List.setIfInBounds_toArray, List.set_cons_zero, List.set_cons_succ]
        refine held_on (i := 11) (d := (some 76)) (v := ?_) rfl rfl (by kernel_rfl) (by kernel_rfl) (by kernel_rfl) (fun _ _ _ h => h) (by rfl) hHeld ?_ ?_
        rotate_left
        focus (intro w hSw; have hSc := HSW.out w hSw; clear hSw; go_simp; first | done | with_reducible rfl)
        try simp only [Act.put, List.setIfInBounds_toArray, List.set_cons_zero, List.set_cons_succ]
        refine held_on (i := 12) (d := (some 77)) (v := ?_) rfl rfl (by kernel_rfl) (by kernel_rfl) (by kernel_rfl) (fun _ _ _ h => h) (by rfl) hHeld ?_ ?_
        rotate_left
        focus (intro w hSw; have hSc := HSW.out w hSw; clear hSw; go_simp; first | done | with_reducible rfl)
        try simp only [Act.put, List.setIfInBounds_toArray, List.set_cons_zero, List.set_cons_succ]
        refine held_call (i := 13) (by kernel_rfl) rfl (by rfl) (fun K hK => ?_)
        go_simp
        (refine (HSM.out _ hHeld).mono ?_; rintro e wa ⟨rfl, hxa⟩)
        refine hK.out _ _ (hHeld.trans hxa) (fun hHeld => ?_)
        clear hK K
        try simp only [Act.put, List.setIfInBounds_toArray, List.set_cons_zero, List.set_cons_succ]
        refine held_on (i := 14) (d := (some 79)) (v := ?_) rfl rfl (by kernel_rfl) (by kernel_rfl) (by kernel_rfl) (fun _ _ _ h => h) (by rfl) hHeld ?_ ?_
        rotate_left
        focus (intro w hSw; have hSc := HSW.out w hSw; clear hSw; go_simp; first | done | with_reducible rfl)
        try simp only [Act.put, List.setIfInBounds_toArray, List.set_cons_zero, List.set_cons_succ]
        refine held_on (i := 15) (d := (some 80)) (v := ?_) rfl rfl (by kernel_rfl) (by kernel_rfl) (by kernel_rfl) (fun _ _ _ h => h) (by rfl) hHeld ?_ ?_
        rotate_left
        focus (intro w hSw; have hSc := HSW.out w hSw; clear hSw; go_simp; first | done | with_reducible rfl)
        try simp only [Act.put, List.setIfInBounds_toArray, List.set_cons_zero, List.set_cons_succ]
        refine wpAnyH_done (by kernel_rfl) ?_ _
        refine onlyM_mk ⟨hHeld, by kernel_rfl, ?_⟩
        simp only [putT, List.map_cons, List.map_nil, List.cons_append, List.nil_append, List.setIfInBounds_toArray, List.set_cons_zero, List.set_cons_succ]
        kernel_rfl
    · intro W5 vs hE5
      simp only [putT, List.map_cons, List.map_nil, List.cons_append, List.nil_append, List.setIfInBounds_toArray, List.set_cons_zero, List.set_cons_succ]
      have hbk := HBLK.out.ext hE5
      have cg : W5.cell? ⟨w5.heap.size, 0, none⟩ = some (.slice s'.a ys.length s'.c) := hbk.cell 0
      have fg := hbk.frozen 0
      have lg := hbk.lt
      have HE5 := Lib.hid hE5
      have HBK := Lib.hid hbk
      have hs5e := hE5.size
      clear hE5 hbk
      try gi_wp2_with fail
      generalize hset : W5.setCell ⟨w5.heap.size, 0, none⟩ _ = W6
      have hs6 : St (fun b => b = w5.heap.size) W5 W6 := by rw [← hset]; exact (St.refl (fun b => b = w5.heap.size) W5).set (p := ⟨w5.heap.size, 0, none⟩) (.inr rfl) _
      have HB6 := Lib.hid (show Blk W6 w5.heap.size 131 #[.slice none 0 0] by rw [← hset]; exact HBK.out.set_ 0 _)
      have h66 : St (fun b => b = w5.heap.size) w6 W6 := (HST6.out.trans (HE5.out.st _)).trans hs6
      have hA6 : Agree (Lt w5.heap.size) w5 W6 := (HX56.out.agree fun _ h => h).trans (h66.agree.mono fun b (hb : b < w5.heap.size) => ⟨by omega, by omega⟩)
      have hz66 := h66.size
      have hsq2 := HSE.out W6 hA6 (by omega)
      have HSQ2 := Lib.hid hsq2
      have HS6 := Lib.hid hs6
      have H66 := Lib.hid h66
      have hs56 := hs6.size
      have hl1 : w5.heap.size < W6.heap.size := HB6.out.lt
      clear hset hs6 h66 hA6 hsq2 cg fg lg
      try gi_wp2_with fail
      refine wpIn_rangeC3 (gf := 129) (lb := #[.pointer (some ⟨w4.heap.size, 0, none⟩), .pointer (some ⟨w4.heap.size + 1, 0, none⟩)]) rfl (enters_of Try.func129 (by kernel_rfl) rfl) HSQ2.out (Agree.refl _) (Nat.le_refl _)
        (fun b hb => hb.elim (fun (h : b < w4.heap.size) => by omega) (fun h => h.elim (fun (h : b < w4.heap.size) => by omega) (fun h => by omega))) (fun _ => rfl)
        (fun pre C D W => CollC W6 w5.heap.size pre C D W ∧ pre.length ≤ 1000000) (fun _ _ _ _ => False) (fun b => b = w5.heap.size)
        (fun b hb => ⟨by omega, fun h => h.elim (fun (h : b < w4.heap.size) => by omega) (fun h => h.elim (fun (h : b < w4.heap.size) => by omega) (fun h => by omega))⟩)
        (fun h k => ⟨h.1.turn hl1 k, h.2⟩) (fun h k => h) (fun W hW hz => ⟨CollC.start HB6.out hW hz, by simp⟩) ?roundx ?donex ?stopx
      case stopx =>
        rintro D c pre Di W0' W hD hSp hX
        exact hX.elim
      case roundx =>
        rintro pre C D D1 x W0' W1 ⟨hcoll, hpl⟩ hlt hsz hnL hx01 hD1 hD1l hCD hG
        obtain ⟨⟨s, rfl, hblk, hown⟩, hv, hst, hsz', hdis, hdlo⟩ := id hcoll
        have hpl' : pre.length < 1000000 := by
          have := (List.getElem?_eq_some_iff.1 hG.at_).1
          omega
        have hb3 := Blk.new W1 134 x.cells
        have hx3 : Ext W1 (W1.alloc (.cells x.cells 134)) := (Ext.refl W1).alloc _ _
        have HB3 := Lib.hid hb3
        have HX3' := Lib.hid hx3
        have HI := Lib.hid hcoll
        have HBLK' := Lib.hid hblk
        have HOWN := Lib.hid hown
        have HX01 := Lib.hid hx01
        have HD1 := Lib.hid hD1
        have HD1L := Lib.hid hD1l
        have HCD := Lib.hid hCD
        have HV := Lib.hid hG.val
        clear hb3 hx3 hblk hown hv hst hdis hdlo hx01 hD1 hD1l hCD hG hnL hlt hcoll
        gi_wp2_with fail
        refine ⟨HX3'.out, fun W3' k3 => ?_⟩
        have hs1W := HX01.out.size
        have h13 : St (fun b => b = W6.heap.size + 1) W1 W3' := (HX3'.out.st _).trans k3
        have h03 : St (fun b => D b ∨ b = W6.heap.size + 1) W0' W3' := (HX01.out.mono fun i _ hi => .inl hi).trans (h13.mono fun i _ hi => .inr hi)
        have hbv := k3.blk HB3.out (by omega)
        obtain ⟨c0, c1, c2, c3, c4, c5, c6, c7, c8, c9, c10, c11, c12, c13, c14⟩ := hbv.c15
        have lv := hbv.lt
        have hrow0 : ∀ b, s.row = some b → W6.heap.size + 2 ≤ b ∧ b < W0'.heap.size := fun b hb => own_row HOWN.out hb
        have hnd : ∀ b, (b = w5.heap.size ∨ s.row = some b) → ¬ (D b ∨ b = W6.heap.size + 1) := fun b hb e => e.elim (HI.out.dis b hb) (fun e => by
          rcases hb with h | h
          · omega
          · have := (hrow0 b h).1; omega)
        have hL3 := h03.blk HBLK'.out (hnd _ (.inl rfl))
        have cL : W3'.cell? ⟨w5.heap.size, 0, none⟩ = some (.slice s.a pre.length s.c) := hL3.cell 0
        have fL := hL3.frozen 0
        have lL := hL3.lt
        have hx34 : Ext W3' (W3'.alloc (.cells x.cells 134)) := (Ext.refl W3').alloc _ _
        have hown4 := own_agree (own_agree HOWN.out h03.agree fun b hb => ⟨(hrow0 b hb).2, hnd b (.inr hb)⟩) (hx34.agree fun b (hb : b < W3'.heap.size) => hb) (fun b hb => by have := (hrow0 b hb).2; have := h03.size; omega)
        have h63 : pre.length + 1 ≤ maxLen := by unfold maxLen; omega
        have hby : (pre.length + 1) * 208 ≤ 140737488355328 := by omega
        have hs03 := h03.size
        have hbase : W6.heap.size + 2 ≤ (W3'.alloc (.cells x.cells 134)).heap.size := by rw [World.size_alloc]; omega
        have HV3 := Lib.hid ((HV.out.agree (h13.agree.mono fun b hb => ⟨hb.2.1, fun e => hb.2.2 (.inr (.inr e))⟩)).mono (G := fun b => W6.heap.size + 2 ≤ b ∧ b < W3'.heap.size ∧ ¬ (D1 b ∨ ((b = w5.heap.size ∨ s.row = some b) ∨ b = W6.heap.size + 1))) fun b hb => ⟨hb.1, Nat.lt_of_lt_of_le hb.2.1 h13.size, hb.2.2⟩)
        have hs13 := h13.size
        have H03 := Lib.hid h03
        have HX34' := Lib.hid hx34
        have HOWN4 := Lib.hid hown4
        have HBN := Lib.hid (Blk.new W3' 134 x.cells)
        have hneL : s.row ≠ some (w5.heap.size) := fun e => by have := (hrow0 _ e).1; omega
        have fLX := Lib.hid ((hx34.frozen (o := 0) lL).trans fL)
        have HD13 := Lib.hid (show ∀ b, D1 b → W6.heap.size + 2 ≤ b ∧ b < W3'.heap.size from fun b hb => ⟨(HD1L.out b hb).1, Nat.lt_of_lt_of_le (HD1L.out b hb).2 hs13⟩)
        have hneW : ¬ w5.heap.size = W3'.heap.size := by omega
        clear k3 h03 h13 hbv hL3 hx34 hown4 hnd fL
        gi_wp2_with (gi_at_builtin; refine wpListIn_append_x _ rfl (.tmp 83) (.tmp 85) 131 rfl (W6.heap.size + 2) 134 i0 _ 15 208 Try.underlying131 hi hz0 hz1 hz2 rfl (by decide) s pre.length (flatC pre) rfl HOWN4.out (fun b => b = W3'.heap.size) ⟨some ⟨W3'.heap.size, 0, none⟩, 1⟩ 1 x.cells.toList rfl (Rd.block HBN.out (by decide) rfl) (ce_one x) h63 hby hbase ?_; intro s3 w5x hown5 hwr5 hs5; have h5 := hwr5.cell0 (o := 0) HX34'.out hneL lL; have cL5 : w5x.cell? ⟨w5.heap.size, 0, none⟩ = some (.slice s.a pre.length s.c) := h5.1.trans cL; have lL5 := h5.2; have fL5 : w5x.frozen? ⟨w5.heap.size, 0, none⟩ = false := (hwr5.fz _ _).trans (fLX.out); have HO5 := Lib.hid hown5; have HW5 := Lib.hid hwr5; have HS5 := Lib.hid hs5; clear hown5 hwr5 hs5 h5)
        obtain ⟨e1, e2, e3, e4⟩ := collC_end hl1 HI.out HBLK'.out HOWN.out H03.out HD1.out HD13.out HCD.out HV3.out HX34'.out HO5.out HW5.out HS5.out
        exact ⟨_, ⟨e1, by rw [List.length_append, List.length_singleton]; omega⟩, e2, e3, e4⟩
      case donex =>
        rintro D2 xs2 C2 Di2 W0x W7 hD2 hS2 ⟨hco2, hpl2⟩ hste2 hDi2 hDk2
        have hco7 := collC_move hl1 hco2 hste2 (fun b hb => .inl hb) hDi2 hco2.dis
        obtain ⟨s7, hblk7, hgs7⟩ := hco7.cs hpl2
        have hst7 : St (fun b => b = w5.heap.size) W6 W7 := hco7.st
        have hs67 := hst7.size
        have hzW7 : CS W7 (Lt W7.heap.size) s8 zs := ((HS8.out.agree9e ((HX5.out.trans HX56.out).agree fun _ h => h)).agree9e ((H66.out.trans hst7).agree.mono fun b (hb : b < w4.heap.size) => ⟨by omega, by omega⟩)).mono9 fun i (hi : i < w4.heap.size) => (show i < W7.heap.size by omega)
        have hsm := same9_refl hgs7 hzW7 (hS2.trans HZ8.out.symm)
        have HSM := Lib.hid hsm
        have cg : W7.cell? ⟨w5.heap.size, 0, none⟩ = some (.slice s7.a xs2.length s7.c) := hblk7.cell 0
        have lg := hblk7.lt
        have HST7 := Lib.hid hst7
        have HDK2 := Lib.hid hDk2
        have HDD2 := Lib.hid hD2
        clear hco2 hco7 hste2 hDi2 hgs7 hzW7 hsm hblk7 hst7 hDk2 hD2 hS2
        gi_wp2_with fail
        refine ⟨trivial, ?_⟩
        refine (callsIn_wide.2 HSM.out).mono ?_
        rintro e wa ⟨rfl, hxa⟩
        have HXA' := Lib.hid hxa
        clear hxa cg lg
        gi_wp2_with fail
        refine ⟨trivial, ?_⟩
        refine (callsIn_wide.2 (known09 _)).mono ?_
        rintro e wd ⟨rfl, hbd⟩
        have hb := HXA'.out.trans hbd
        have HB := Lib.hid hb
        have hDl := (Array.getElem?_eq_some_iff.1 HDK.out).1
        have h1 : W5.heap[D]? = _ := (HE5.out.heap hDl).trans HDK.out
        have h2 : W6.heap[D]? = _ := (HS6.out.block D (Array.getElem?_eq_some_iff.1 h1).1 (by have := HDD.out; omega)).trans h1
        have h3 : W7.heap[D]? = _ := (HST7.out.block D (Array.getElem?_eq_some_iff.1 h2).1 (by have := HDD.out; omega)).trans h2
        have hd1 := (hb.heap (Array.getElem?_eq_some_iff.1 h3).1).trans h3
        have hd2 := (hb.heap (Array.getElem?_eq_some_iff.1 HDK2.out).1).trans HDK2.out
        have HD1 := Lib.hid hd1
        have HD2 := Lib.hid hd2
        have hDne : D ≠ D2 := by have := HDD.out; have := HDD2.out; omega
        have HNE := Lib.hid hDne
        clear hb hd1 hd2 hbd h1 h2 h3 hDne
        gi_wp2_with fail
        have hk2 : St (fun b => b = D2) wd (wd.putObj D2 (.deferred none)) := St.put HD2.out rfl rfl
        have hd1' := (hk2.block D (Array.getElem?_eq_some_iff.1 HD1.out).1 HNE.out).trans HD1.out
        have hk1 : St (fun b => b = D) (wd.putObj D2 (.deferred none)) ((wd.putObj D2 (.deferred none)).putObj D (.deferred none)) := St.put hd1' rfl rfl
        refine ⟨by simp, .inl ⟨_, _, rfl, run_takeDeferred HD2.out, ?_⟩⟩
        refine ⟨by simp, .inl ⟨_, _, rfl, run_takeDeferred hd1', ?_⟩⟩
        refine ⟨.bool true, ?_, rfl, ?_⟩
        · simp [results, Try.f25, go_sem]
        · have hw1 : Below w.heap.size w w6 := ((HX4.out.trans HX5.out).trans HX56.out).below
          have hB := HB.out.below
          have k1 := hB.size
          have k2 := hw1.size
          have e1 := HDD.out
          have e2 := HDD2.out
          have h67 : St (fun b => b = w5.heap.size ∨ b = D ∨ b = D2) w6 W7 := (H66.out.trans HST7.out).mono fun i _ hi => .inl hi
          have hend : St (fun b => b = w5.heap.size ∨ b = D ∨ b = D2) wd ((wd.putObj D2 (.deferred none)).putObj D (.deferred none)) := (hk2.mono fun i _ hi => .inr (.inr hi)).trans (hk1.mono fun i _ hi => .inr (.inl hi))
          have hw7 : Below w.heap.size w W7 := hw1.trans ⟨h67.os, h67.tape, h67.output, h67.size, fun b hb => h67.block b (by omega) (by omega)⟩
          have k3 := hw7.size
          exact (hw7.trans (hB.mono hw7.size)).trans ⟨hend.os, hend.tape, hend.output, hend.size, fun b hb => hend.block b (by omega) (by omega)⟩
theorem diffearly_w (s0 : Sl) (l0 : List LA) (s1 : Sl) (l1 : List LA) (few : Int) (w : World) (h0 : AS w (Lt w.heap.size) s0 l0) (h1 : AS w (Lt w.heap.size) s1 l1) (hf : (Lit.int .i64 few).wf = true) :
    Calls Try.prog 25 #[.slice s0.a l0.length s0.c, .slice s1.a l1.length s1.c, .int .i64 few] w fun e w' => e = .returned (.bool true) ∧ Below w.heap.size w w' := by
  have hb : -9223372036854775808 ≤ few ∧ few ≤ 9223372036854775807 := by
    have h1 : IntKind.i64.min = -9223372036854775808 := by decide
    have h2 : IntKind.i64.max = 9223372036854775807 := by decide
    simp [Lit.wf, h1, h2] at hf; omega
  by_cases hbig : 200 < l0.length ∨ 100 < l1.length
  · exact early_not s0 l0 s1 l1 few w hbig
  · exact early_yes s0 l0 s1 l1 few w h0 h1 hb.1 hb.2 (by omega) (by omega)
end Go.Proofs.Ytpapoalgocmlaaa
