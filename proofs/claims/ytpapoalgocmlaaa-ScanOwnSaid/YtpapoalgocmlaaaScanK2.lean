/- scan.walkLeaf, scan.walk, scan.Range at a leaf, where the rounds may turn what was made for them. -/
import Derived.Test.YtpapoalgocmlaaaRangeC2
namespace Go.Proofs.Ytpapoalgocmlaaa
open Go.RowKit Go.Shelf
set_option linter.unusedVariables false
set_option linter.unusedSimpArgs false
attribute [local go_sem] Oper.semAt_some

set_option maxRecDepth 100000 in
set_option maxHeartbeats 2000000 in
theorem walkLeaf_any2 {At : World → Prop} {F : Nat → Prop} {nv : Value} {es : List Ent} (hc : LeafC At nv es) (hagr : ∀ W W', At W → Agree F W W' → W.heap.size ≤ W'.heap.size → At W') (hsm : ∀ e ∈ es, e.1.size ≤ maxLen) {lo hi : ByteArray} {op : Bool} {all rest : List Ent} {pre : List LE}
    {l : Nat} {J : List LE → (Nat → Prop) → World → Prop} {Jx : List LE → World → Prop} (hT : Takes2 Try.prog l encE (ScanG all) J Jx) {C : Nat → Prop} {W0 W : World} (hJ : J pre C W0) (hx : Ext W0 W) (hw : At W) (hF : ∀ b, F b → b < W.heap.size ∧ ¬ C b) (hall : all = pre.map LE.ent ++ (rangeE lo hi op es ++ rest)) :
    Calls Try.prog 146 #[nv, inV lo hi op, .func (.yield l) #[] #[]] W (WalkPost lo hi op es all pre J Jx C W) := by
  obtain ⟨pp, rfl⟩ := hc.ptr
  have hl := hc.few
  have hCl := hT.lt pre C W0 hJ
  have hx1 : Ext W (W.alloc (.cells #[.string lo, .string hi, .bool op] 166)) := (Ext.refl W).alloc _ _
  have hb1 := Blk.new W 166 #[.string lo, .string hi, .bool op]
  have hbe := below_any hc (hc.ext hw hx1) lo
  obtain ⟨hp1, hp2⟩ := pos_split es lo hc.sorted
  obtain ⟨p, hp⟩ : ∃ p, posE es lo = p := ⟨_, rfl⟩
  rw [hp] at hbe hp1 hp2
  have hple : p ≤ es.length := by rw [← hp]; exact posE_le _ _
  have q0 : (W.alloc (.cells #[.string lo, .string hi, .bool op] 166)).cell? ⟨W.heap.size, 0, none⟩ = some (.string lo) := hb1.cell 0
  have HC := Lib.hid hc
  have HAG := Lib.hid hagr
  have HSM := Lib.hid hsm
  have HT := Lib.hid hT
  have HJ := Lib.hid hJ
  have HX := Lib.hid hx
  have HW := Lib.hid hw
  have HF := Lib.hid hF
  have HALL := Lib.hid hall
  have HB1 := Lib.hid hb1
  have HBE := Lib.hid hbe
  have HP1 := Lib.hid hp1
  have HP2 := Lib.hid hp2
  have HX1 := Lib.hid hx1
  have HCL := Lib.hid hCl
  clear hc hagr hsm hT hJ hx hw hF hall hbe hp1 hp2 hp hb1 hx1 hCl
  refine (callsIn_wide (n := 5)).1 ?_
  refine callsIn_of_wp Try.func146 rfl trivial ?_ rfl
  simp only [Try.ntmps146, List.size_toArray, List.length_cons, List.length_nil, Nat.reduceAdd, Nat.reduceSub, Array.replicate_succ, Array.replicate_zero, List.push_toArray, List.append_toArray, List.nil_append, List.cons_append]
  gi_wp2_with fail
  refine ⟨trivial, ?_⟩
  refine (callsIn_wide.2 HBE.out).mono ?_
  rintro e w1 ⟨rfl, hx2⟩
  have HX2 := Lib.hid (HX1.out.trans hx2)
  have HB2 := Lib.hid (HB1.out.ext hx2)
  clear hx2 q0 HBE
  gi_wp2_with fail
  gi_loopw [7] (fun v wr => ∃ (i : Nat) (new : List LE) (C' : Nat → Prop) (Wj : World), v = .int .i64 i ∧ p ≤ i ∧ i ≤ es.length ∧ LeafS lo hi op es At pre J C W i new C' Wj wr) (fun v _ => es.length - (intOf v).toNat)
  case atStart => exact ⟨p, [], C, W0, rfl, Nat.le_refl _, hple, ⟨by rw [List.append_nil]; exact HJ.out, HX.out.trans HX2.out, by rw [rangeE_below HP1.out]; rfl, HX2.out.st _, fun b hb => .inl hb, HB2.out, HC.out.ext HW.out HX2.out⟩⟩
  case round =>
    obtain ⟨i, new, C', Wj, rfl, hpi, hil, hS⟩ := hrel
    have HS := Lib.hid hS
    have hsz := HC.out.size wr hS.at_
    have HSZ := Lib.hid hsz
    clear hS hsz
    gi_wp2_with fail
    refine ⟨trivial, ?_⟩
    refine (callsIn_wide.2 HSZ.out).mono ?_
    rintro e w2 ⟨rfl, q, rfl⟩
    have hxq : Ext wr (wr.drewN q) := (Ext.refl wr).drewN q
    by_cases hlt : i < es.length
    · have g1 : (i : Int) < (es.length : Int) := by omega
      have g1' : decide ((i : Int) < (es.length : Int)) = true := decide_eq_true g1
      obtain ⟨x, hxi⟩ : ∃ x, es[i]? = some x := ⟨_, List.getElem?_eq_getElem hlt⟩
      have hen := HC.out.entry (wr.drewN q) (HC.out.ext HS.out.at_ hxq) i x hxi
      have HEN := Lib.hid hen
      have HXI := Lib.hid hxi
      clear hen hxi
      gi_wp2_with fail
      refine ⟨trivial, ?_⟩
      refine (callsIn_wide.2 HEN.out).mono ?_
      rintro e w3 ⟨sl, so, rfl, hx3, hrv⟩
      have hx4 : Ext w3 (w3.alloc (.cells #[.string x.1, .int .i64 x.2.kind, .bool x.2.b, .int .i64 x.2.i, .string x.2.t, .slice sl.a x.2.l.length sl.c, .slice so.a x.2.ok.length so.c] 56)) := (Ext.refl w3).alloc _ _
      have hb4 := Blk.new w3 56 #[.string x.1, .int .i64 x.2.kind, .bool x.2.b, .int .i64 x.2.i, .string x.2.t, .slice sl.a x.2.l.length sl.c, .slice so.a x.2.ok.length so.c]
      have HX4 := Lib.hid ((hxq.trans hx3).trans hx4)
      have HX34 := Lib.hid hx4
      have HB4 := Lib.hid hb4
      have HRV := Lib.hid hrv
      have hbx := HS.out.box.ext (hxq.trans hx3)
      have qb0 : w3.cell? ⟨W.heap.size, 0, none⟩ = some (.string lo) := hbx.cell 0
      have qb1 : w3.cell? ⟨W.heap.size, 1, none⟩ = some (.string hi) := hbx.cell 1
      have qb2 : w3.cell? ⟨W.heap.size, 2, none⟩ = some (.bool op) := hbx.cell 2
      have lb := hbx.lt
      clear hx3 hx4 hb4 hrv hbx
      gi_wp2_with fail
      refine ⟨trivial, ?_⟩
      refine (callsIn_wide.2 (ends_any _ lo hi op x.1)).mono ?_
      rintro e w5 ⟨rfl, hx5⟩
      have hX5 := HX4.out.trans hx5
      have hb5 := HB4.out.ext hx5
      obtain ⟨c0, c1, c2, c3, c4, c5, c6⟩ := hb5.c7
      have hat5 := HC.out.ext HS.out.at_ hX5
      have hbx5 := HS.out.box.ext hX5
      have hs4 := HX34.out.size
      have hs5 := hx5.size
      have hsj := HS.out.ext.size
      have hrv5 : RV w5 (In wr.heap.size w5.heap.size) x.2 sl so := ((HRV.out.agree (HX34.out.agree fun b hb => hb.2)).agree (hx5.agree fun b hb => by have := hb.2; omega)).mono fun b hb => ⟨hb.1, by have := hb.2; omega⟩
      have HX5 := Lib.hid hX5
      have HAT := Lib.hid hat5
      have HBX := Lib.hid hbx5
      have HRV5 := Lib.hid hrv5
      clear hx5 hX5 hb5 hat5 hbx5 hrv5 HRV HX4 HX34 HB4 qb0 qb1 qb2
      cases hend : endI hi op x.1 with
      | true =>
        gi_wp2_with fail
        refine ⟨fun _ h => absurd h (by simp), ?_⟩
        gi_wp2_with fail
        go_ret
        refine .inl ⟨new, C', Wj, .inr ⟨rfl, x, List.mem_of_getElem? HXI.out, hend⟩, HS.out.j, HS.out.ext.trans HX5.out, ?_, HS.out.st.ext HX5.out, fun b hb => (HS.out.sub b hb).imp_right Nat.le_of_lt⟩
        rw [HS.out.new_, rangeE_rest HC.out.sorted HXI.out hend]
      | false =>
        have hge : klt x.1 lo = false := HP2.out x (by
          obtain ⟨h1, rfl⟩ := List.getElem?_eq_some_iff.1 HXI.out
          rw [List.mem_iff_getElem?]
          exact ⟨i - p, by rw [List.getElem?_drop, Nat.add_sub_cancel' hpi]; exact HXI.out⟩)
        have hes : es = es.take i ++ x :: es.drop (i + 1) := by
          obtain ⟨h1, h2⟩ := List.getElem?_eq_some_iff.1 HXI.out
          conv => lhs; rw [← List.take_append_drop i es, List.drop_eq_getElem_cons h1, h2]
        obtain ⟨n1, n2, n3⟩ := scanG_next (x := ⟨x.1, x.2, sl, so⟩) (A := es.take i) (B := es.drop (i + 1)) (all := all) (rest := rest) (pre := pre) (by show all = pre.map LE.ent ++ (rangeE lo hi op (es.take i ++ x :: es.drop (i + 1)) ++ rest); rw [← hes]; exact HALL.out) HS.out.new_ hge hend
        have hy := HT.out.take (pre ++ new) C' ⟨x.1, x.2, sl, so⟩ Wj wr w5 HS.out.j HS.out.ext HX5.out ⟨n1, n2, HRV5.out, HSM.out x (List.mem_of_getElem? HXI.out)⟩
        obtain ⟨fn, tmps, assign, body, hy, hR⟩ := hy
        have HR := Lib.hid hR
        have HN1 := Lib.hid n1
        have HN2 := Lib.hid n2
        have HN3 := Lib.hid n3
        have HES := Lib.hid hes
        clear hR n1 n2 n3 hes
        dsimp only [encE] at hy
        gi_wp2_with fail
        refine HR.out.mono ?_
        rintro e w6 (⟨rfl, C6, hj6, hst6, hsub6⟩ | ⟨rfl, hjx, hst6⟩)
        · have hbl := HS.out.box.lt
          have hj6' : J (pre ++ (new ++ [⟨x.1, x.2, sl, so⟩])) C6 w6 := by rw [← List.append_assoc]; exact hj6
          have hWC : ∀ b, b ≤ W.heap.size → C' b → C b := fun b hb h => by
            rcases HS.out.sub b h with h | h
            · exact h
            · omega
          have hWC0 : ¬ C' W.heap.size := fun h => by
            have h1 := HCL.out _ (hWC _ (Nat.le_refl _) h)
            have := HX.out.size; omega
          have HS6 := Lib.hid (show LeafS lo hi op es At pre J C W (i + 1) (new ++ [⟨x.1, x.2, sl, so⟩]) C6 w6 w6 from
            ⟨hj6', Ext.refl _, by rw [HN3.out, List.take_add_one, HXI.out]; rfl, (HS.out.st.ext HX5.out).then hst6 (fun b hb h => h.elim (fun h => hWC b (Nat.le_of_lt hb) h) (by omega)), fun b hb => by
              rcases hsub6 b hb with h | h
              · exact HS.out.sub b h
              · exact .inr (by omega), hst6.blk HBX.out (fun h => h.elim hWC0 (by omega)), HAG.out w5 w6 HAT.out (hst6.agree.mono fun b hb => ⟨by have := (HF.out b hb).1; omega, fun h => h.elim (fun h => (HF.out b hb).2 (hWC b (Nat.le_of_lt (HF.out b hb).1) h)) (by have := (HF.out b hb).1; omega)⟩) hst6.size⟩)
          clear hj6 hst6 hsub6 hj6' hWC hWC0 hy
          gi_wp2_with fail
          go_roundw
          case rel => exact ⟨i + 1, _, C6, w6, by go_num, by omega, hlt, HS6.out⟩
          case measure => simp [intOf]; omega
        · gi_wp2_with fail
          go_ret
          have hbl := HS.out.box.lt
          have hst : St C W w6 := (HS.out.st.ext HX5.out).then hst6 fun b hb h => by
            rcases h with h | h
            · rcases HS.out.sub b h with h | h
              · exact h
              · omega
            · omega
          exact .inr ⟨rfl, hst, _, w6, hjx, Ext.refl _, by
            rw [List.map_append, HN2.out]
            exact take_snoc_prefix HN1.out⟩
    · obtain rfl : i = es.length := by omega
      gi_wp2_with fail
      go_ret
      refine .inl ⟨new, C', Wj, .inl rfl, HS.out.j, HS.out.ext.trans hxq, ?_, HS.out.st.ext hxq, fun b hb => (HS.out.sub b hb).imp_right Nat.le_of_lt⟩
      rw [HS.out.new_, List.take_length]
theorem walk_leaf2 {At : World → Prop} {F : Nat → Prop} {nv : Value} {es : List Ent} (hc : LeafC At nv es) (hagr : ∀ W W', At W → Agree F W W' → W.heap.size ≤ W'.heap.size → At W') (hsm : ∀ e ∈ es, e.1.size ≤ maxLen) {lo hi : ByteArray} {op : Bool} {all rest : List Ent} {pre : List LE}
    {l : Nat} {J : List LE → (Nat → Prop) → World → Prop} {Jx : List LE → World → Prop} (hT : Takes2 Try.prog l encE (ScanG all) J Jx) {C : Nat → Prop} {W0 W : World} (hJ : J pre C W0) (hx : Ext W0 W) (hw : At W) (hF : ∀ b, F b → b < W.heap.size ∧ ¬ C b) (hall : all = pre.map LE.ent ++ (rangeE lo hi op es ++ rest)) :
    Calls Try.prog 106 #[nv, inV lo hi op, .func (.yield l) #[] #[]] W (WalkPost lo hi op es all pre J Jx C W) := by
  have hx1 : Ext W (W.alloc (.cells #[.string lo, .string hi, .bool op] 166)) := (Ext.refl W).alloc _ _
  have hh := hc.height _ (hc.ext hw hx1)
  have hwl := walkLeaf_any2 hc hagr hsm hT hJ (hx.trans hx1) (hc.ext hw hx1) (fun b hb => ⟨Nat.lt_of_lt_of_le (hF b hb).1 hx1.size, (hF b hb).2⟩) hall
  obtain ⟨pp, rfl⟩ := hc.ptr
  have HWL := Lib.hid hwl
  have HX1 := Lib.hid hx1
  clear hc hagr hsm hT hJ hx hw hF hall hwl hx1
  go_enter Try.func106, Try.ntmps106
  go_wp2_with fail
  refine hh.mono ?_
  rintro e w1 ⟨rfl, rfl⟩
  go_wp2_with fail
  refine HWL.out.mono ?_
  rintro e w2 hp
  obtain ⟨b, rfl⟩ := hp.bool
  have HP := Lib.hid (hp.from HX1.out)
  clear hp
  go_wp2_with fail
  go_ret
  exact HP.out
theorem walkR_any2 {F : Nat → Prop} {lo hi : ByteArray} {op : Bool} {l : Nat} {J : List LE → (Nat → Prop) → World → Prop} {Jx : List LE → World → Prop} {t0 : PT 0} {T : RT} (hT0 : T = some ⟨0, t0⟩) (hT : Takes2 Try.prog l encE (ScanG (rangeE lo hi op (entsT T))) J Jx)
    {C : Nat → Prop} {W0 W : World} (hJ : J [] C W0) (hx : Ext W0 W) (hn : TreeAt F T W) (hF : ∀ b, F b → ¬ C b) (ok : OkR T) (hl : (entsT T).length ≤ 1000000) :
    Calls Try.prog 106 #[rootV T, inV lo hi op, .func (.yield l) #[] #[]] W (WalkPost lo hi op (entsT T) (rangeE lo hi op (entsT T)) [] J Jx C W) := by
  subst hT0
  exact walk_leaf2 (F := F) (rest := []) (leafC_node ok.1 ok.2.2) (fun W W' a ha hz => ⟨a.1.agree ha, fun b hb => Nat.lt_of_lt_of_le (a.2 b hb) hz⟩) (keys_small hn.1) hT hJ hx hn (fun b hb => ⟨hn.2 b hb, hF b hb⟩) (by simp [entsT])
set_option maxRecDepth 100000 in
set_option maxHeartbeats 2000000 in
theorem range_seq2 {w0 : World} {F : Nat → Prop} {t0 : PT 0} {T : RT} (hT0 : T = some ⟨0, t0⟩) {B : Nat} {lo hi : ByteArray} {op : Bool} (hT : TreeAt F T w0) (ok : OkR T) (hl : (entsT T).length ≤ 1000000) (hB : RangeB w0 B T lo hi op) :
    SeqC2 Try.prog 105 (rangeL B) encE (RangeK F B) (ScanG (rangeE lo hi op (entsT T))) (fun xs => xs.map LE.ent = rangeE lo hi op (entsT T)) (fun pre => pre.map LE.ent <+: rangeE lo hi op (entsT T)) w0 := by
  intro l J Jx C W hTk hA hsz hCK hJ
  have hBW : RangeB W B T lo hi op := hB.agree hA fun b h1 h2 => .inr ⟨h1, h2⟩
  have hTW : TreeAt F T W := ⟨hT.1.agree (hA.mono fun b hb => .inl hb), fun b hb => Nat.lt_of_lt_of_le (hT.2 b hb) hsz⟩
  have hwk := fun W1 (hW : Ext W W1) => walkR_any2 hT0 hTk hJ hW (hTW.ext hW) (fun b hb h => hCK b h (.inl hb)) ok hl
  have hCl := hTk.lt [] C W hJ
  obtain ⟨p, hp⟩ := rootV_ptr T
  rw [hp] at hwk
  have hbt := hBW.bt
  rw [hp] at hbt
  have HSS := Lib.hid (show ∀ W1, St C W W1 → W1.cell? ⟨B, 0, none⟩ = some (.pointer p) ∧ W1.cell? ⟨B + 1, 0, none⟩ = some (.string lo) ∧ W1.cell? ⟨B + 2, 0, none⟩ = some (.string hi) ∧ W1.cell? ⟨B + 3, 0, none⟩ = some (.bool op) from fun W1 hW =>
    ⟨(hW.blk hbt fun h => hCK _ h (.inr ⟨by omega, by omega⟩)).cell 0, (hW.blk hBW.bl fun h => hCK _ h (.inr ⟨by omega, by omega⟩)).cell 0, (hW.blk hBW.bh fun h => hCK _ h (.inr ⟨by omega, by omega⟩)).cell 0, (hW.blk hBW.bo fun h => hCK _ h (.inr ⟨by omega, by omega⟩)).cell 0⟩)
  have HWK := Lib.hid hwk
  clear hT0 hTk hA hsz hCK hJ hBW hTW hwk hp hT ok hl hB hbt hCl
  show Calls _ _ #[.func (.yield l) #[] #[], .pointer (some ⟨B, 0, none⟩), .pointer (some ⟨B + 1, 0, none⟩), .pointer (some ⟨B + 2, 0, none⟩), .pointer (some ⟨B + 3, 0, none⟩)] W _
  go_enter Try.func105, Try.ntmps105
  go_wp2_with fail
  refine wp_region_held_drew (S := (fun w' => St C W w')) (by kernel_rfl) (((St.refl C W).drew)) (fun hHeld => ?_)
  refine held_on (i := 0) (d := (some 6)) (v := ?_) rfl rfl (by kernel_rfl) (by kernel_rfl) (by kernel_rfl) (fun _ _ _ h => h) (by rfl) hHeld ?_ ?_
  rotate_left
  focus (intro w hSw; have hSc := HSS.out w hSw; clear hSw; go_simp; first | done | with_reducible rfl)
  try simp only [Act.put, List.setIfInBounds_toArray, List.set_cons_zero, List.set_cons_succ]
  refine held_on (i := 2) (d := (some 8)) (v := ?_) rfl rfl (by kernel_rfl) (by kernel_rfl) (by kernel_rfl) (fun _ _ _ h => h) (by rfl) hHeld ?_ ?_
  rotate_left
  focus (intro w hSw; have hSc := HSS.out w hSw; clear hSw; go_simp; first | done | with_reducible rfl)
  try simp only [Act.put, List.setIfInBounds_toArray, List.set_cons_zero, List.set_cons_succ]
  refine held_on (i := 3) (d := (some 9)) (v := ?_) rfl rfl (by kernel_rfl) (by kernel_rfl) (by kernel_rfl) (fun _ _ _ h => h) (by rfl) hHeld ?_ ?_
  rotate_left
  focus (intro w hSw; have hSc := HSS.out w hSw; clear hSw; go_simp; first | done | with_reducible rfl)
  try simp only [Act.put, List.setIfInBounds_toArray, List.set_cons_zero, List.set_cons_succ]
  refine held_on (i := 4) (d := (some 10)) (v := ?_) rfl rfl (by kernel_rfl) (by kernel_rfl) (by kernel_rfl) (fun _ _ _ h => h) (by rfl) hHeld ?_ ?_
  rotate_left
  focus (intro w hSw; have hSc := HSS.out w hSw; clear hSw; go_simp; first | done | with_reducible rfl)
  try simp only [Act.put, List.setIfInBounds_toArray, List.set_cons_zero, List.set_cons_succ]
  refine held_on (i := 5) (d := (some 11)) (v := ?_) rfl rfl (by kernel_rfl) (by kernel_rfl) (by kernel_rfl) (fun _ _ _ h => h) (by rfl) hHeld ?_ ?_
  rotate_left
  focus (intro w hSw; have hSc := HSS.out w hSw; clear hSw; go_simp; first | done | with_reducible rfl)
  try simp only [Act.put, List.setIfInBounds_toArray, List.set_cons_zero, List.set_cons_succ]
  refine held_on (i := 6) (d := (some 12)) (v := ?_) rfl rfl (by kernel_rfl) (by kernel_rfl) (by kernel_rfl) (fun _ _ _ h => h) (by rfl) hHeld ?_ ?_
  rotate_left
  focus (intro w hSw; have hSc := HSS.out w hSw; clear hSw; go_simp; first | done | with_reducible rfl)
  try simp only [Act.put, List.setIfInBounds_toArray, List.set_cons_zero, List.set_cons_succ]
  refine held_call (i := 1) (by kernel_rfl) rfl (by rfl) (fun K hK => ?_)
  go_simp
  (refine (treeRoot_any _ _).mono ?_; rintro e w1 ⟨rfl, hx1⟩; replace hx1 := ((Ext.refl W).drew).trans hx1; have HX1 := Lib.hid hx1)
  refine hK.out _ _ (hx1.st C) (fun hHeld => ?_)
  clear hK K
  try simp only [Act.put, List.setIfInBounds_toArray, List.set_cons_zero, List.set_cons_succ]
  refine held_call (i := 7) (by kernel_rfl) rfl (by rfl) (fun K hK => ?_)
  go_simp
  (refine (HWK.out _ HX1.out).mono ?_; intro e w2 hp2; obtain ⟨b2, rfl⟩ := hp2.bool; have HP2 := Lib.hid (hp2.from HX1.out); clear hp2)
  refine hK.out _ _ (HP2.out.st) (fun hHeld => ?_)
  clear hK K
  try simp only [Act.put, List.setIfInBounds_toArray, List.set_cons_zero, List.set_cons_succ]
  refine wpAnyH_done (by kernel_rfl) ?_ _
  go_wp2_with fail
  go_end0
  refine ⟨⟨_, rfl⟩, ?_⟩
  rcases HP2.out with ⟨new, C', W0, -, h2, h3, h4, -, -⟩ | ⟨-, -, pre', W0, h2, h3, h4⟩
  · exact .inl ⟨new, C', W0, h4, h2, h3⟩
  · exact .inr ⟨pre', W0, h4, h2, h3⟩
end Go.Proofs.Ytpapoalgocmlaaa
