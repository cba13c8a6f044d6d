/- What the theorem needs of the texts OvPreW, CmpW, CmpI, CmpA, LogP, Det, VSame, OvCom, OvComW, PutV, OvBack, OvBackW, Same12, Known12, TrodB, Marks12: no condition of its own. -/
import Derived.TacticsInMore
import Derived.LoopNIn
import Derived.LoopIn
import Derived.Laws.IdiomStrings
import Derived.WalkArith
import Derived.OrdersIn
import Derived.Lib.Bytealg
import Derived.Test.YtechahocffcbpaaGreatDoorRows
import Derived.Test.YtechahocffcbpaaGreatDoorPva
import Derived.Test.YtechahocffcbpaaGreatDoorPvb
import Derived.Test.YtechahocffcbpaaGreatDoorPvc
import Derived.Test.YtechahocffcbpaaGreatDoorPvd
import Derived.Test.YtechahocffcbpaaGreatDoorPve
import Derived.Test.YtechahocffcbpaaGreatDoorPvh
import Derived.Test.YtechahocffcbpaaGreatDoorPvf
set_option maxRecDepth 100000
set_option maxHeartbeats 4000000
namespace Go.Proofs.YtechahocffcbpaaGreatDoor
open Go.RowKit Go.Maps Go.Shelf Go.Sort
set_option linter.unusedVariables false
set_option linter.unusedSimpArgs false
attribute [local go_sem] Oper.semAt_some
theorem run_range_nilO (w : World) : (Instr.range 26 (.map none)).run Tryz.prog w = .ok (.pointer (some ⟨w.heap.size, 0, none⟩)) (w.alloc (.mapIter none 0 #[] 0)) := by
  simp [Instr.range, run_underlying Tryz.underlying26, newObj, Sem.run_bind, Sem.run_pure, Result.andThen]
  rfl
theorem run_next_nilO {w : World} {r : Nat} (h : w.heap[r]? = some (.mapIter none 0 #[] 0)) (ty : TypeId) : (Instr.next (.pointer (some ⟨r, 0, none⟩)) false ty).run Tryz.prog w = .ok (.tuple #[.bool false]) w := by
  have hg : (getObj r).run Tryz.prog w = .ok (.mapIter none 0 #[] 0) w := by simp [getObj, Sem.run, h]
  unfold Instr.next
  simp only [Sem.run_bind, Sem.run_pure, Result.andThen_ok, hg]
theorem ranges_keepO {H : Type} {P : Program} {k : TypeId} {R : Value → Option (DataW H × List MemPlace)} {w w' : World} {b r n : Nat} {D : DataW H} {left : Lit → Bool} {cnt : Nat} (h : w.ranges P k R b r n D left cnt) (hb : w'.heap[b]? = w.heap[b]?) (hr : w'.heap[r]? = w.heap[r]?) : w'.ranges P k R b r n D left cnt := by
  obtain ⟨es, clock, since, seen, c0, h1, h2, h3, h4, h5, h6⟩ := h
  exact ⟨es, clock, since, seen, c0, hb.trans h1, h2, h3, h4, hr.trans h5, h6⟩
theorem ranges_ltO {H : Type} {P : Program} {k : TypeId} {R : Value → Option (DataW H × List MemPlace)} {w : World} {b r n : Nat} {D : DataW H} {left : Lit → Bool} {cnt : Nat} (h : w.ranges P k R b r n D left cnt) : b < w.heap.size ∧ r < w.heap.size ∧ (∀ t cs, ¬ Blk w b t cs) := by
  obtain ⟨es, clock, since, seen, c0, h1, h2, h3, h4, h5, h6⟩ := h
  refine ⟨(Array.getElem?_eq_some_iff.1 h1).1, (Array.getElem?_eq_some_iff.1 h5).1, fun t cs hb => ?_⟩
  have hb : w.heap[b]? = some (.cells cs t (0, 0)) := hb
  rw [h1] at hb; cases hb
structure PreL (w1 : World) (B r b D : Nat) (C : AL SV) (p : ByteArray) (ks1 : List ByteArray) (left : Lit → Bool) (cnt : Nat) (ss : List (List UInt8)) (s : Sl) (wr : World) : Prop where
  col : CollP w1 B (ks1 ++ hitsP C p ss) s wr
  rg : wr.ranges Tryz.prog 9 heldR b r C.length (mapA SV.val C) left cnt
  co : Collected (mapA SV.val C) left ss
  ne : s.row ≠ some r
  dk : wr.heap[D]? = some (.deferred (some []))
theorem prefix_ov {H : Nat → Prop} {w : World} {O : Nat} {d : OD} (h : OvAt H w O d) (hl : (entsT d.T).length ≤ 1000000) (hn : d.us.length ≤ 1000000) {p : ByteArray} (hp : p.size ≤ maxLen) :
    Calls Tryz.prog 22 #[.pointer (some ⟨O, 0, none⟩), .string p] w (PrePostO d p w) := by
  obtain ⟨i0, hi, hz0, hz1, hz2⟩ := info_parts Tryz.infoStringO
  have hF : ∀ b, OvF H w O d b → b < w.heap.size := fun b hb => hb.1
  have hra := fun W => prefix_any W d.T p hp
  have hse := fun W1 (hA : Agree (Lt w.heap.size) w W1) (hz : w.heap.size ≤ W1.heap.size) B lo hi op (hB : RangeB W1 B d.T lo hi op) => range_seq (lo := lo) (hi := hi) (op := op) (show TreeAt (OvF H w O d) d.T W1 from ⟨h.tree.agree (hA.mono hF), fun b hb => Nat.lt_of_lt_of_le (hF b hb) hz⟩) h.ok hl hB
  obtain ⟨r, hpr⟩ := rootV_ptr d.T
  simp only [treeV, hpr] at hra
  have c0 : w.cell? ⟨O, 0, none⟩ = some (.pointer r) := by rw [← hpr]; exact h.blk.cell 0
  have lO := h.blk.lt
  have l1 : O < w.heap.size + 1 := by omega
  have HAT := Lib.hid h
  have HFL := Lib.hid hF
  have HRA := Lib.hid hra
  have HSE := Lib.hid hse
  clear h hF hra hse hpr
  refine (callsIn_wide (n := 6)).1 ?_
  refine callsIn_of_wp_marks Tryz.func22 rfl trivial ?_ rfl
  simp only [Tryz.ntmps22, List.size_toArray, List.length_cons, List.length_nil, Nat.reduceAdd, Nat.reduceSub, Array.replicate_succ, Array.replicate_zero, List.push_toArray, List.append_toArray, List.nil_append, List.cons_append]
  gi_wp2_with fail
  generalize hW0 : World.alloc (World.alloc _ _) _ = W0
  obtain ⟨hx0, hz0', hb0, hb1⟩ := two_blocks w _ _ _ _ W0 hW0
  have HX0 := Lib.hid hx0
  have HB0 := Lib.hid hb0
  have HB1 := Lib.hid hb1
  clear hW0 hx0 hb0 hb1
  refine ⟨trivial, ?_⟩
  refine (callsIn_wide.2 (HRA.out W0)).mono ?_
  rintro e w1 ⟨B, en, op, rfl, hbw, hrb, hB, hpe⟩
  have hbw1 := Bw.trans HX0.out.below hbw
  have hn1 : Nw w w1 := (Nw.of HX0.out).trans (Sb.new hbw)
  have HOV := Lib.hid (HAT.out.nw hn1)
  have hC0 : Blk w1 w.heap.size 43 #[.pointer (some ⟨O, 0, none⟩)] := HB0.out.agree (Agree.of_below hbw (F := Lt W0.heap.size) fun _ h => h) (by show _ < _; omega)
  have hC1 : Blk w1 (w.heap.size + 1) 59 #[.slice none 0 0] := HB1.out.agree (Agree.of_below hbw (F := Lt W0.heap.size) fun _ h => h) (by show _ < _; omega)
  have HSQ := Lib.hid (HSE.out w1 (Agree.of_below hbw1 (F := Lt w.heap.size) fun _ h => h) hbw1.size B p en op hrb)
  have HN1 := Lib.hid hn1
  have HC0 := Lib.hid hC0
  have HC1 := Lib.hid hC1
  have HPE := Lib.hid (hpe (entsT d.T))
  have hBl := hrb.lt
  have hs1 := hbw1.size
  have hl0 : w.heap.size < w1.heap.size := hC0.lt
  have hl1 : w.heap.size + 1 < w1.heap.size := hC1.lt
  clear hbw hrb HRA HSE hbw1 hC0 hC1 hpe HB0 HB1 hn1
  rw [HPE.out] at HSQ
  gi_wp2_with fail
  refine wpIn_rangeC (gf := 120) (lb := rangeL B) rfl (enters_of Tryz.func120 (by kernel_rfl) rfl) HSQ.out (Agree.refl _) (Nat.le_refl _)
    (fun b hb => hb.elim (fun h => by have := HFL.out b h; omega) (fun h => by omega)) (fun _ => rfl)
    (fun pre C W => ∃ s : Sl, C = (fun b => b = w.heap.size + 1 ∨ s.row = some b) ∧ CollP w1 (w.heap.size + 1) (ownP d.C pre) s W) (fun _ _ _ => False) (fun b => b = w.heap.size + 1)
    (fun b hb => ⟨by omega, fun h => h.elim (fun h => by have := HFL.out b h; omega) (fun h => by omega)⟩)
    (fun h k => ?turn) (fun h k => h) (fun W hW hz => ⟨Sl.none, by funext b; simp [Sl.row], CollP.start HC1.out hW hz⟩) ?round ?done ?stop
  case turn =>
    obtain ⟨s, e, hc⟩ := h
    exact ⟨s, e, hc.keep k.sb (by omega) (fun b hb => by have := (hc.row hb).1; omega) fun b hb => by omega⟩
  case stop =>
    rintro D c pre W hD hSp hX hDk
    exact hX.elim
  case round =>
    rintro pre C x W0' W1 ⟨s, rfl, hcp⟩ hlt hsz hnL hx01 hG
    obtain ⟨ks, hks⟩ : ∃ ks, ownP d.C pre = ks := ⟨_, rfl⟩
    have hkl : ks.length < 1000000 := by
      have h1 := (List.getElem?_eq_some_iff.1 hG.at_).1
      have h2 := ownP_len d.C pre
      have h3 : (prefixE p (entsT d.T)).length ≤ 1000000 := Nat.le_trans (List.length_filter_le _ _) hl
      rw [← hks]; omega
    have hkm := hG.key
    rw [hks] at hcp
    have hcp1 := hcp.ext hx01
    have HCP := Lib.hid hcp1
    have HKS := Lib.hid hks
    clear hcp hcp1 hx01 hG hnL hlt hks
    gi_wp2_with fail
    refine ⟨Ext.refl _, fun W3 k3 => ?_⟩
    have hcp3 := HCP.out.keep k3.sb (by omega) (fun b hb => by have := (HCP.out.row hb).1; omega) fun b hb => by omega
    have hsb3 := hcp3.sb
    have q0 : W3.cell? ⟨w.heap.size, 0, none⟩ = some (.pointer (some ⟨O, 0, none⟩)) := (hsb3.blk HC0.out (by omega)).cell 0
    have q1 : W3.cell? ⟨O, 1, none⟩ = some (.map d.mb) := (hsb3.blk HOV.out.blk (by omega)).cell 1
    have lq : O < W3.heap.size := (hsb3.blk HOV.out.blk (by omega)).lt
    have hmap : OvMap W3 d.mb d.C := HOV.out.map.heap fun b hb => hsb3.block b (HOV.out.map.lt hb) fun e => by have := HAT.out.map.lt hb; omega
    have hlk := look_ov hmap hkm
    have HCP3 := Lib.hid hcp3
    have hrow3 : ∀ b, s.row = some b → w1.heap.size + 2 ≤ b ∧ b < W3.heap.size := fun b hb => hcp3.row hb
    have c3 : W3.cell? ⟨w.heap.size + 1, 0, none⟩ = some (.slice s.a ks.length s.c) := hcp3.blk.cell 0
    have f3 : W3.frozen? ⟨w.heap.size + 1, 0, none⟩ = false := hcp3.blk.frozen 0
    have l3 := hcp3.blk.lt
    cases hg : getA d.C x.k with
    | some sv =>
      rw [hg, show hadA d.C x.k = sv by rw [hadA, hg]; rfl] at hlk
      obtain ⟨has, v, sl, so⟩ := sv
      have HG := Lib.hid hg
      clear hg hcp3 hsb3 hmap
      gi_wp2_with fail
      have hx4 := (Ext.refl W3).alloc #[.bool has, .int .i64 v.kind, .bool v.b, .int .i64 v.i, .string v.t, .slice sl.a v.l.length sl.c, .slice so.a v.ok.length so.c] 85
      exact ⟨_, ⟨s, rfl, by rw [ownP_no HG.out, HKS.out]; exact HCP3.out.ext hx4⟩, hx4.st _, fun b hb => .inl hb, fun b hb => by
        have := hx4.size
        rcases hb with e | e
        · omega
        · have := (hrow3 b e).2; omega⟩
    | none =>
      rw [hg, show hadA d.C x.k = zeroSV by rw [hadA, hg]; rfl] at hlk
      have hx34 : Ext W3 ((W3.alloc (.cells #[.bool false, .int .i64 0, .bool false, .int .i64 0, .string ByteArray.empty, .slice none 0 0, .slice none 0 0] 85)).alloc (.cells #[.string x.k] 9)) := ((Ext.refl W3).alloc _ _).alloc _ _
      have hown4 := own_agree hcp3.own (hx34.agree (F := Lt W3.heap.size) fun b hb => hb) fun b hb => (hrow3 b hb).2
      have h63 : ks.length + 1 ≤ maxLen := by unfold maxLen; omega
      have hby : (ks.length + 1) * 16 ≤ 140737488355328 := by omega
      have hs3 := hcp3.sb.size
      have hbase : w1.heap.size + 2 ≤ ((W3.alloc (.cells #[.bool false, .int .i64 0, .bool false, .int .i64 0, .string ByteArray.empty, .slice none 0 0, .slice none 0 0] 85)).alloc (.cells #[.string x.k] 9)).heap.size := by have := hcp3.sz; simp; omega
      have HX34 := Lib.hid hx34
      have HOWN4 := Lib.hid hown4
      have HBN := Lib.hid (show Blk ((W3.alloc (.cells #[.bool false, .int .i64 0, .bool false, .int .i64 0, .string ByteArray.empty, .slice none 0 0, .slice none 0 0] 85)).alloc (.cells #[.string x.k] 9)) (W3.heap.size + 1) 9 #[.string x.k] by
        have := Blk.new (W3.alloc (.cells #[.bool false, .int .i64 0, .bool false, .int .i64 0, .string ByteArray.empty, .slice none 0 0, .slice none 0 0] 85)) 9 #[.string x.k]
        rwa [World.size_alloc] at this)
      have hWB : ¬ w.heap.size + 1 = W3.heap.size := by omega
      have hWB2 : ¬ w.heap.size + 1 = W3.heap.size + 1 := by omega
      have l3' : w.heap.size + 1 < W3.heap.size + 1 := by omega
      have f3X := Lib.hid ((hx34.frozen (o := 0) l3).trans f3)
      have hrB : s.row ≠ some (w.heap.size + 1) := fun e => by have := (hrow3 _ e).1; omega
      have HG := Lib.hid hg
      clear hg hcp3 hsb3 hmap hx34 hown4
      gi_wp2_with (gi_at_builtin; refine wpListIn_append_x _ rfl (.tmp 32) (.tmp 34) 59 rfl (w1.heap.size + 2) 9 i0 _ 1 16 Tryz.underlying59 hi hz0 hz1 hz2 rfl (by decide) s ks.length (ks.map .string) rfl HOWN4.out (fun b => b = W3.heap.size + 1) ⟨some ⟨W3.heap.size + 1, 0, none⟩, 1⟩ 1 [.string x.k] rfl (Rd.block HBN.out (by decide) rfl) (by simp [Value.oneCell']) h63 hby hbase ?_; intro s3 w5 hown5 hwr5 hs5; have h5 := hwr5.cell0 (o := 0) HX34.out hrB l3; have c5 : w5.cell? ⟨w.heap.size + 1, 0, none⟩ = some (.slice s.a ks.length s.c) := h5.1.trans c3; have l5 := h5.2; have f5 : w5.frozen? ⟨w.heap.size + 1, 0, none⟩ = false := (hwr5.fz _ _).trans (f3X.out); have HO5 := Lib.hid hown5; have HW5 := Lib.hid hwr5; have HS5 := Lib.hid hs5; clear hown5 hwr5 hs5 h5)
      obtain ⟨e1, e2, e3, e4⟩ := HCP3.out.snoc hl1 HX34.out HO5.out HW5.out HS5.out
      exact ⟨_, ⟨s3, rfl, by rw [ownP_yes HG.out, HKS.out]; exact e1⟩, e2, fun b hb => by
        rcases hb with e | e
        · exact .inl (.inl e)
        · exact (e3 b e).imp .inr id, e4⟩
  case done =>
    rintro D xs C W hD hS ⟨s, rfl, hcp⟩ hDk
    have hsb := hcp.sb
    have q0 : W.cell? ⟨w.heap.size, 0, none⟩ = some (.pointer (some ⟨O, 0, none⟩)) := (hsb.blk HC0.out (by omega)).cell 0
    have q1 : W.cell? ⟨O, 1, none⟩ = some (.map d.mb) := (hsb.blk HOV.out.blk (by omega)).cell 1
    have lq : O < W.heap.size := (hsb.blk HOV.out.blk (by omega)).lt
    have l0 : w.heap.size < W.heap.size := (hsb.blk HC0.out (by omega)).lt
    have hmap : OvMap W d.mb d.C := HOV.out.map.heap fun b hb => hsb.block b (HOV.out.map.lt hb) fun e => by have := HAT.out.map.lt hb; omega
    have hlen1 : (ownP d.C xs).length ≤ 1000000 := by
      have h1 := ownP_len d.C xs
      have h2 : (xs.map LE.ent).length = (prefixE p (entsT d.T)).length := by rw [hS]
      have h3 : (prefixE p (entsT d.T)).length ≤ 1000000 := Nat.le_trans (List.length_filter_le _ _) hl
      rw [List.length_map] at h2; omega
    have hDl := (Array.getElem?_eq_some_iff.1 hDk).1
    have HCP := Lib.hid hcp
    have HS := Lib.hid hS
    have HDK := Lib.hid hDk
    have HMAP := Lib.hid hmap
    have HD := Lib.hid hD
    clear hcp hS hDk hmap hsb hD
    obtain ⟨mb, hmb⟩ : ∃ mb, d.mb = mb := ⟨_, rfl⟩
    rw [hmb] at q1
    have HMB := Lib.hid hmb
    clear hmb
    rcases mb with _ | b
    · have hr0 := fun w => run_range_nilO w
      gi_wp2_with fail
      generalize hWW : World.alloc W _ = WW
      have hiter : WW.heap[W.heap.size]? = some (.mapIter none 0 #[] 0) := by rw [← hWW]; exact heap_alloc_new W _
      have hsw : Nw W WW := by rw [← hWW]; exact Sb.made (World.grownBy_alloc _ _ _)
      have hCe : d.C = [] := by have := HMAP.out; rw [HMB.out] at this; exact this
      have hall := pre_all (p := p) (ss := []) HAT.out.ok.sorted HAT.out.sorted HS.out (by rw [hCe]; exact List.Perm.nil)
      have hcw := HCP.out.keep (hsw.any (fun _ => False)) (fun e => e) (fun _ _ e => e) (fun _ e => e.elim)
      obtain ⟨ks, hks⟩ : ∃ ks, ownP d.C xs = ks := ⟨_, rfl⟩
      rw [show hitsP d.C p [] = [] from rfl, List.append_nil, hks] at hall
      rw [hks] at hcw hlen1
      obtain ⟨s2, rfl⟩ : ∃ s2, s2 = s := ⟨_, rfl⟩
      have HALL := Lib.hid hall
      have HCW := Lib.hid hcw
      have HIT := Lib.hid hiter
      have HDW := Lib.hid (show WW.heap[D]? = some (.deferred (some [])) from (hsw.block D hDl (fun e => e)).trans HDK.out)
      have HSORT := Lib.hid (sortStr_any hcw.own (by omega))
      have c5 : WW.cell? ⟨w.heap.size + 1, 0, none⟩ = some (.slice s2.a ks.length s2.c) := hcw.blk.cell 0
      clear hWW hr0 hall hcw hiter hsw hks q0 q1 lq l0 hCe
      gi_loopw [] (fun wr => wr = WW) (fun _ => 0)
      case atStart => rfl
      case round =>
        subst hrel
        have hn2 := run_next_nilO HIT.out
        gi_wp2_with fail
        refine ⟨trivial, ?_⟩
        refine (callsIn_wide.2 HSORT.out).mono ?_
        rintro e w5 ⟨rfl, ts, hts, hsd, hto, htl, htg⟩
        have hsb5 : Sb (fun b => s2.row = some b) wr w5 := ⟨htg.os, htg.tape, htg.output, htg.size, fun i hi hn => htg.block i hi fun e => hn e.symm⟩
        have hblk5 := hsb5.blk HCW.out.blk (fun e => by have := (HCW.out.row e).1; omega)
        have c6 : w5.cell? ⟨w.heap.size + 1, 0, none⟩ = some (.slice s2.a ks.length s2.c) := hblk5.cell 0
        have l6 := hblk5.lt
        have HD5 := Lib.hid (show w5.heap[D]? = some (.deferred (some [])) from (hsb5.block D (by have := (Array.getElem?_eq_some_iff.1 HDW.out).1; omega) (fun e => by have := (HCW.out.row e).1; have := HD.out; omega)).trans HDW.out)
        have hpost := pre_end HN1.out (Nat.le_succ _) HCW.out HALL.out.1 HALL.out.2 hts hsd hto htg (St.put (o' := .deferred none) HD5.out rfl rfl).sb HD.out.symm
        rw [htl] at hpost
        have HPOST := Lib.hid hpost
        clear hsb5 hblk5 hts hsd hto htl htg hpost
        gi_wp2_with fail
        refine ⟨by simp, .inl ⟨_, _, rfl, run_takeDeferred HD5.out, ?_⟩⟩
        refine ⟨.slice s2.a ks.length s2.c, ?_, HPOST.out⟩
        simp [results, Tryz.results22, go_sem]
    · have hown : W.ownsMap Tryz.prog 9 heldR b d.C.length (mapA SV.val d.C) := by
        have := HMAP.out; rw [HMB.out] at this; exact this
      have HOWN := Lib.hid hown
      clear hown
      gi_wp2_with (first | (gi_at_range; refine wpListIn_range_own _ rfl _ 26 rfl 9 85 strKey Tryz.underlying26 heldR b d.C.length _ rfl HOWN.out ?_; intro w2 hrg0 hg0 hs0) | fail)
      have hsw : Nw W w2 := Sb.made hg0
      obtain ⟨ks1, hk1⟩ : ∃ ks1, ownP d.C xs = ks1 := ⟨_, rfl⟩
      have hcw := HCP.out.keep (hsw.any (fun _ => False)) (fun e => e) (fun _ _ e => e) (fun _ e => e.elim)
      rw [hk1] at hcw hlen1
      have hs : s.row ≠ some W.heap.size := fun e => by have := (HCP.out.row e).2; omega
      have HST := Lib.hid (show PreL w1 (w.heap.size + 1) W.heap.size b D d.C p ks1 (Maps.has (mapA SV.val d.C)) (Maps.size (mapA SV.val d.C)) [] s w2 from
        ⟨by rw [show hitsP d.C p [] = [] from rfl, List.append_nil]; exact hcw, hrg0, Collected.start _, hs, (hsw.block D hDl (fun e => e)).trans HDK.out⟩)
      have HK1 := Lib.hid hk1
      have hw1W : w1.heap.size ≤ W.heap.size := HCP.out.sb.size
      clear hrg0 hg0 hs0 hsw hcw hs q0 q1 lq l0 hk1
      simp only [Act.put, List.setIfInBounds_toArray, List.set_cons_zero, List.set_cons_succ]
      gi_loopw [] (fun wr => ∃ (left : Lit → Bool) (cnt : Nat) (ss : List (List UInt8)) (s2 : Sl), PreL w1 (w.heap.size + 1) W.heap.size b D d.C p ks1 left cnt ss s2 wr) (fun wr => wr.rangeLeft b W.heap.size)
      case atStart => exact ⟨_, _, _, _, HST.out⟩
      case round =>
        obtain ⟨left, cnt, ss, s2, hP⟩ := hrel
        have hrg := hP.rg
        have hshort := collected_short hP.co
        have hfew := HAT.out.few
        have hhl := hitsP_len d.C p ss
        have HP := Lib.hid hP
        clear hP
        gi_wp2_with (first | (gi_at_next; refine wpListIn_next_ranges _ rfl _ rfl 9 strKey heldR encStr id (fun key kl hk => by obtain ⟨x, hx, _⟩ := Maps.keyOf_str Tryz.underlying9 hk; exact ⟨x, hx⟩) (fun v _ _ => ⟨v, rfl⟩) b W.heap.size _ _ _ _ rfl hrg ?_ ?_) | fail)
        · intro hc0 hl0
          have hperm := HP.out.co.perm HOWN.out strKey Tryz.underlying9 hl0
          rw [strKeys_mapA] at hperm
          have hall := pre_all (p := p) HAT.out.ok.sorted HAT.out.sorted HS.out hperm
          have hcw := HP.out.col
          rw [HK1.out] at hall
          obtain ⟨ks, hks⟩ : ∃ ks, ks1 ++ hitsP d.C p ss = ks := ⟨_, rfl⟩
          have hkl : ks.length ≤ 2000000 := by rw [← hks, List.length_append]; omega
          rw [hks] at hall hcw
          have HALL := Lib.hid hall
          have HCW := Lib.hid hcw
          have HDW := Lib.hid HP.out.dk
          have HSORT := Lib.hid (sortStr_any hcw.own (by omega))
          have c5 : wr.cell? ⟨w.heap.size + 1, 0, none⟩ = some (.slice s2.a ks.length s2.c) := hcw.blk.cell 0
          clear hrg hperm hall hcw hks hc0 hl0
          gi_wp2_with fail
          refine ⟨trivial, ?_⟩
          refine (callsIn_wide.2 HSORT.out).mono ?_
          rintro e w5 ⟨rfl, ts, hts, hsd, hto, htl, htg⟩
          have hsb5 : Sb (fun b => s2.row = some b) wr w5 := ⟨htg.os, htg.tape, htg.output, htg.size, fun i hi hn => htg.block i hi fun e => hn e.symm⟩
          have hblk5 := hsb5.blk HCW.out.blk (fun e => by have := (HCW.out.row e).1; omega)
          have c6 : w5.cell? ⟨w.heap.size + 1, 0, none⟩ = some (.slice s2.a ks.length s2.c) := hblk5.cell 0
          have l6 := hblk5.lt
          have HD5 := Lib.hid (show w5.heap[D]? = some (.deferred (some [])) from (hsb5.block D (by have := (Array.getElem?_eq_some_iff.1 HDW.out).1; omega) (fun e => by have := (HCW.out.row e).1; have := HD.out; omega)).trans HDW.out)
          have hpost := pre_end HN1.out (Nat.le_succ _) HCW.out HALL.out.1 HALL.out.2 hts hsd hto htg (St.put (o' := .deferred none) HD5.out rfl rfl).sb HD.out.symm
          rw [htl] at hpost
          have HPOST := Lib.hid hpost
          clear hsb5 hblk5 hts hsd hto htl htg hpost
          gi_wp2_with fail
          refine ⟨by simp, .inl ⟨_, _, rfl, run_takeDeferred HD5.out, ?_⟩⟩
          refine ⟨.slice s2.a ks.length s2.c, ?_, HPOST.out⟩
          simp [results, Tryz.results22, go_sem]
        · intro x c kl yd yp w3 cnt2 hkey hlk hv hat hrg2 hcl hg2 hs2 hen
          obtain ⟨x', ex, rfl, hxl⟩ := Maps.keyOf_str Tryz.underlying9 hkey
          obtain rfl := encStr_inj ex
          obtain ⟨sv, hsv, rfl⟩ := at_some hat hv
          have hst3 : Sb (fun i => i = W.heap.size) wr w3 := Sb.grown hg2
          have hcol := HP.out.col.keep hst3 (by omega) (fun i hi e => HP.out.ne (by rw [hi, e])) (fun i e => by omega)
          have hco := HP.out.co.step hlk hat
          obtain ⟨ks, hks⟩ : ∃ ks, ks1 ++ hitsP d.C p ss = ks := ⟨_, rfl⟩
          have hkl : ks.length ≤ 2000000 := by rw [← hks, List.length_append]; omega
          rw [hks] at hcol
          have hdk3 : w3.heap[D]? = some (.deferred (some [])) := (hst3.block D (by have := (Array.getElem?_eq_some_iff.1 HP.out.dk).1; omega) (fun e => by have := HD.out; omega)).trans HP.out.dk
          obtain ⟨has, v, sl, so⟩ := sv
          obtain ⟨k, hk⟩ : ∃ k, textO x = k := ⟨_, rfl⟩
          have hen' : (Instr.entry (.pointer (some ⟨W.heap.size, 0, none⟩))).run Tryz.prog w3 = .ok (.tuple #[.string k, .agg #[.bool has, .int .i64 v.kind, .bool v.b, .int .i64 v.i, .string v.t, .slice sl.a v.l.length sl.c, .slice so.a v.ok.length so.c]]) w3 := by rw [← hk]; exact hen
          rw [hk] at hsv
          obtain ⟨lb3, lr3, nb3⟩ := ranges_ltO hrg2
          have hrow3 : ∀ i, s2.row = some i → w1.heap.size + 2 ≤ i ∧ i < w3.heap.size := fun i hi => hcol.row hi
          have hne3 : s2.row ≠ some W.heap.size := HP.out.ne
          have hneb : s2.row ≠ some b := fun e => by
            rcases hcol.own.2 with ⟨hv, -⟩ | ⟨gg, cap, cur, hv, -, hc, -⟩
            · injection hv with e1
              rw [Sl.row, e1] at e
              cases e
            · injection hv with e1
              rw [Sl.row, e1] at e
              have : gg = b := by simpa using e
              subst this
              exact nb3 _ _ hc
          have hbB : ¬ b = w.heap.size + 1 := fun e => nb3 _ _ (by rw [e]; exact hcol.blk)
          have c3 : w3.cell? ⟨w.heap.size + 1, 0, none⟩ = some (.slice s2.a ks.length s2.c) := hcol.blk.cell 0
          have f3 : w3.frozen? ⟨w.heap.size + 1, 0, none⟩ = false := hcol.blk.frozen 0
          have l3 := hcol.blk.lt
          have HCOL := Lib.hid hcol
          have HCO := Lib.hid hco
          have HRG2 := Lib.hid hrg2
          have HRG1 := Lib.hid hrg
          have HDK3 := Lib.hid hdk3
          have HKS := Lib.hid hks
          have HK := Lib.hid hk
          have HSV := Lib.hid hsv
          have HCL := Lib.hid hcl
          rw [show (encStr x) = Value.string k from by rw [← hk]]
          clear hcol hco hrg2 hrg hdk3 hks hsv hat hv hkey hlk hg2 hs2 hcl hst3 hxl hen
          have hend : ∀ (s3 : Sl) (w6 : World), CollP w1 (w.heap.size + 1) (ks1 ++ hitsP d.C p (ss ++ [x])) s3 w6 → s3.row ≠ some W.heap.size → w6.heap[b]? = w3.heap[b]? → w6.heap[W.heap.size]? = w3.heap[W.heap.size]? → w6.heap[D]? = w3.heap[D]? →
              PreL w1 (w.heap.size + 1) W.heap.size b D d.C p ks1 (fun z => left z && !z.sameKey (.string x)) cnt2 (ss ++ [x]) s3 w6 := fun s3 w6 h1 h2 h3 h4 h5 => ⟨h1, ranges_keepO HRG2.out h3 h4, HCO.out, h2, h5.trans HDK3.out⟩
          have HEND := Lib.hid hend
          clear hend
          have hx4 := (Ext.refl w3).alloc #[.bool has, .int .i64 v.kind, .bool v.b, .int .i64 v.i, .string v.t, .slice sl.a v.l.length sl.c, .slice so.a v.ok.length so.c] 85
          have HX4 := Lib.hid hx4
          clear hx4
          cases has with
          | false =>
            have hno : hitO d.C p (textO x) = false := by rw [HK.out, hitO_eq HSV.out]; rfl
            have HS3 := Lib.hid (HEND.out s2 _ (by rw [hitsP_no hno, HKS.out]; exact HCOL.out.ext HX4.out) hne3 (Below.heap_alloc _ _ _ lb3) (Below.heap_alloc _ _ _ lr3) (Below.heap_alloc _ _ _ (Array.getElem?_eq_some_iff.1 HDK3.out).1))
            gi_wp2_with fail
            refine ⟨trivial, ?_⟩
            gi_wp2_with fail
            go_roundw
            case rel => exact ⟨_, _, _, _, HS3.out⟩
            case measure => rw [HS3.out.rg.left_eq, HRG1.out.left_eq]; exact HCL.out
          | true =>
            gi_wp2_with fail
            refine ⟨trivial, ?_⟩
            refine (callsIn_wide.2 (begins_any _ k p)).mono ?_
            rintro e w4 ⟨rfl, rfl⟩
            cases hbg : beginsO p k with
            | false =>
              have hno : hitO d.C p (textO x) = false := by rw [HK.out, hitO_eq HSV.out, hbg]; rfl
              have HS3 := Lib.hid (HEND.out s2 _ (by rw [hitsP_no hno, HKS.out]; exact HCOL.out.ext HX4.out) hne3 (Below.heap_alloc _ _ _ lb3) (Below.heap_alloc _ _ _ lr3) (Below.heap_alloc _ _ _ (Array.getElem?_eq_some_iff.1 HDK3.out).1))
              gi_wp2_with fail
              go_roundw
              case rel => exact ⟨_, _, _, _, HS3.out⟩
              case measure => rw [HS3.out.rg.left_eq, HRG1.out.left_eq]; exact HCL.out
            | true =>
              have hyes : hitO d.C p (textO x) = true := by rw [HK.out, hitO_eq HSV.out, hbg]; rfl
              have hx34 : Ext w3 ((w3.alloc (.cells #[.bool true, .int .i64 v.kind, .bool v.b, .int .i64 v.i, .string v.t, .slice sl.a v.l.length sl.c, .slice so.a v.ok.length so.c] 85)).alloc (.cells #[.string k] 9)) := ((Ext.refl w3).alloc _ _).alloc _ _
              have hown4 := own_agree HCOL.out.own (hx34.agree (F := Lt w3.heap.size) fun b hb => hb) fun b hb => (hrow3 b hb).2
              have h63 : ks.length + 1 ≤ maxLen := by unfold maxLen; omega
              have hby : (ks.length + 1) * 16 ≤ 140737488355328 := by omega
              have hbase : w1.heap.size + 2 ≤ ((w3.alloc (.cells #[.bool true, .int .i64 v.kind, .bool v.b, .int .i64 v.i, .string v.t, .slice sl.a v.l.length sl.c, .slice so.a v.ok.length so.c] 85)).alloc (.cells #[.string k] 9)).heap.size := by have := HCOL.out.sz; simp; omega
              have HX34 := Lib.hid hx34
              have HOWN4 := Lib.hid hown4
              have HBN := Lib.hid (show Blk ((w3.alloc (.cells #[.bool true, .int .i64 v.kind, .bool v.b, .int .i64 v.i, .string v.t, .slice sl.a v.l.length sl.c, .slice so.a v.ok.length so.c] 85)).alloc (.cells #[.string k] 9)) (w3.heap.size + 1) 9 #[.string k] by
                have := Blk.new (w3.alloc (.cells #[.bool true, .int .i64 v.kind, .bool v.b, .int .i64 v.i, .string v.t, .slice sl.a v.l.length sl.c, .slice so.a v.ok.length so.c] 85)) 9 #[.string k]
                rwa [World.size_alloc] at this)
              have hWB : ¬ w.heap.size + 1 = w3.heap.size := by omega
              have hWB2 : ¬ w.heap.size + 1 = w3.heap.size + 1 := by omega
              have l3' : w.heap.size + 1 < w3.heap.size + 1 := by omega
              have f3X := Lib.hid ((hx34.frozen (o := 0) l3).trans f3)
              have hrB : s2.row ≠ some (w.heap.size + 1) := fun e => by have := (hrow3 _ e).1; omega
              clear hx34 hown4
              gi_wp2_with (gi_at_builtin; refine wpListIn_append_x _ rfl (.tmp 53) (.tmp 55) 59 rfl (w1.heap.size + 2) 9 i0 _ 1 16 Tryz.underlying59 hi hz0 hz1 hz2 rfl (by decide) s2 ks.length (ks.map .string) rfl HOWN4.out (fun b => b = w3.heap.size + 1) ⟨some ⟨w3.heap.size + 1, 0, none⟩, 1⟩ 1 [.string k] rfl (Rd.block HBN.out (by decide) rfl) (by simp [Value.oneCell']) h63 hby hbase ?_; intro s3 w5 hown5 hwr5 hs5; have h5 := hwr5.cell0 (o := 0) HX34.out hrB l3; have c5 : w5.cell? ⟨w.heap.size + 1, 0, none⟩ = some (.slice s2.a ks.length s2.c) := h5.1.trans c3; have l5 := h5.2; have f5 : w5.frozen? ⟨w.heap.size + 1, 0, none⟩ = false := (hwr5.fz _ _).trans (f3X.out); have HO5 := Lib.hid hown5; have HW5 := Lib.hid hwr5; have HS5 := Lib.hid hs5; clear hown5 hwr5 hs5 h5)
              obtain ⟨e1, e2, e3, e4⟩ := HCOL.out.snoc hl1 HX34.out HO5.out HW5.out HS5.out
              have hDl3 := (Array.getElem?_eq_some_iff.1 HDK3.out).1
              have HS3 := Lib.hid (HEND.out s3 _ (by rw [hitsP_yes hyes, ← List.append_assoc, HKS.out, HK.out]; exact e1) (fun e => by
                  rcases e3 _ e with h | h
                  · exact hne3 h
                  · omega) (e2.block b lb3 fun e => by
                  rcases e with e | e
                  · exact hbB e
                  · exact hneb e) (e2.block _ lr3 fun e => by
                  rcases e with e | e
                  · omega
                  · exact hne3 e) (e2.block D hDl3 fun e => by
                  rcases e with e | e
                  · have := HD.out; omega
                  · have := (hrow3 _ e).1; have := HD.out; omega))
              clear e1 e2 e3 e4
              gi_wp2_with fail
              go_roundw
              case rel => exact ⟨_, _, _, _, HS3.out⟩
              case measure => rw [HS3.out.rg.left_eq, HRG1.out.left_eq]; exact HCL.out
end Go.Proofs.YtechahocffcbpaaGreatDoor
namespace Go.Proofs.YtechahocffcbpaaGreatDoor
open Go.RowKit
set_option linter.unusedVariables false
set_option linter.unusedSimpArgs false
theorem compareBytes_less : ∀ (a b : List UInt8), Lib.compareBytes a b = if Op.bytesLess a b then -1 else if Op.bytesLess b a then 1 else 0
  | [], [] => rfl
  | [], b :: v => by simp [Lib.compareBytes, Op.bytesLess]
  | a :: u, [] => by simp [Lib.compareBytes, Op.bytesLess]
  | a :: u, b :: v => by
    simp only [Lib.compareBytes, Op.bytesLess]
    by_cases h1 : a < b
    · simp [h1]
    · by_cases h2 : b < a
      · have h3 : ¬ a = b := fun e => by subst e; exact h1 h2
        have h4 : ¬ b = a := fun e => h3 e.symm
        simp [h1, h2, h3, h4]
      · have h3 : a = b := UInt8.le_antisymm (UInt8.not_lt.1 h2) (UInt8.not_lt.1 h1)
        subst h3
        simp [h1, compareBytes_less u v]
theorem compareBytes_text (a b : ByteArray) : Lib.compareBytes a.data.toList b.data.toList = textI a b := by
  rw [compareBytes_less]
  unfold textI klt
  rw [ByteArray.toList_eq, ByteArray.toList_eq]
theorem cmpString_any (w : World) (a b : ByteArray) : Calls Tryz.prog 152 #[.string a, .string b] w fun e w' => e = .returned (.int .i64 (textI a b)) ∧ w = w' := by
  rw [← compareBytes_text]
  go_enter Tryz.func152, Tryz.ntmps152
  go_wp2_with fail
  rw [run_callFunc_extern Tryz.func185 (by kernel_rfl) (by kernel_rfl) (by kernel_rfl) (e := Extern.BytealgCompare.compare) (by kernel_rfl), Lib.run_compareString]
  simp only [Result.andThen]
  rw [Oper.upon_value]
  go_wp2_with fail
  go_ret
  exact ⟨rfl, rfl⟩
theorem stringsCompare_any (w : World) (a b : ByteArray) : Calls Tryz.prog 99 #[.string a, .string b] w fun e w' => e = .returned (.int .i64 (textI a b)) ∧ w = w' := by
  have h := cmpString_any w a b
  go_enter Tryz.func99, Tryz.ntmps99
  go_wp2_with fail
  refine h.mono ?_
  rintro e w1 ⟨rfl, rfl⟩
  go_wp2_with fail
  go_ret
  exact ⟨rfl, rfl⟩
theorem rank_any (w : World) (b : Bool) : Calls Tryz.prog 97 #[.bool b] w fun e w' => e = .returned (.int .i64 (if b then 1 else 0)) ∧ w = w' := by
  cases b
  all_goals
    go_enter Tryz.func97, Tryz.ntmps97
    go_wp2_with fail
    go_ret
    exact ⟨rfl, rfl⟩
theorem isNaNKind_any (w : World) (a : Int) : Calls Tryz.prog 150 #[.int .i64 a] w fun e w' => e = .returned (.bool false) ∧ w = w' := by
  go_enter Tryz.func150, Tryz.ntmps150
  go_wp2_with fail
  go_ret
  exact ⟨by simp, rfl⟩
theorem compareKind_any (w : World) (a b : Int) : Calls Tryz.prog 96 #[.int .i64 a, .int .i64 b] w fun e w' => e = .returned (.int .i64 (numI a b)) ∧ w = w' := by
  have hna := isNaNKind_any w a
  have hnb := isNaNKind_any w b
  have hcase : (numI a b = -1 ∧ a < b) ∨ (numI a b = 1 ∧ ¬ a < b ∧ b < a) ∨ (numI a b = 0 ∧ ¬ a < b ∧ ¬ b < a) := by
    unfold numI; split
    · exact .inl ⟨rfl, by assumption⟩
    · split
      · exact .inr (.inl ⟨rfl, by assumption, by assumption⟩)
      · exact .inr (.inr ⟨rfl, by assumption, by assumption⟩)
  rcases hcase with ⟨hn, h1⟩ | ⟨hn, h1, h2⟩ | ⟨hn, h1, h2⟩
  all_goals
    rw [hn]
    clear hn
    go_enter Tryz.func96, Tryz.ntmps96
    go_wp2_with fail
    refine hna.mono ?_
    rintro e w1 ⟨rfl, rfl⟩
    go_wp2_with fail
    refine hnb.mono ?_
    rintro e w1 ⟨rfl, rfl⟩
    go_wp2_with fail
    go_ret
    exact ⟨rfl, rfl⟩
theorem isNaNint64_any (w : World) (a : Int) : Calls Tryz.prog 151 #[.int .i64 a] w fun e w' => e = .returned (.bool false) ∧ w = w' := by
  go_enter Tryz.func151, Tryz.ntmps151
  go_wp2_with fail
  go_ret
  exact ⟨by simp, rfl⟩
theorem compareint64_any (w : World) (a b : Int) : Calls Tryz.prog 98 #[.int .i64 a, .int .i64 b] w fun e w' => e = .returned (.int .i64 (numI a b)) ∧ w = w' := by
  have hna := isNaNint64_any w a
  have hnb := isNaNint64_any w b
  have hcase : (numI a b = -1 ∧ a < b) ∨ (numI a b = 1 ∧ ¬ a < b ∧ b < a) ∨ (numI a b = 0 ∧ ¬ a < b ∧ ¬ b < a) := by
    unfold numI; split
    · exact .inl ⟨rfl, by assumption⟩
    · split
      · exact .inr (.inl ⟨rfl, by assumption, by assumption⟩)
      · exact .inr (.inr ⟨rfl, by assumption, by assumption⟩)
  rcases hcase with ⟨hn, h1⟩ | ⟨hn, h1, h2⟩ | ⟨hn, h1, h2⟩
  all_goals
    rw [hn]
    clear hn
    go_enter Tryz.func98, Tryz.ntmps98
    go_wp2_with fail
    refine hna.mono ?_
    rintro e w1 ⟨rfl, rfl⟩
    go_wp2_with fail
    refine hnb.mono ?_
    rintro e w1 ⟨rfl, rfl⟩
    go_wp2_with fail
    go_ret
    exact ⟨rfl, rfl⟩
theorem isNaNint_any (w : World) (a : Int) : Calls Tryz.prog 186 #[.int .i64 a] w fun e w' => e = .returned (.bool false) ∧ w = w' := by
  go_enter Tryz.func186, Tryz.ntmps186
  go_wp2_with fail
  go_ret
  exact ⟨by simp, rfl⟩
theorem compareint_any (w : World) (a b : Int) : Calls Tryz.prog 153 #[.int .i64 a, .int .i64 b] w fun e w' => e = .returned (.int .i64 (numI a b)) ∧ w = w' := by
  have hna := isNaNint_any w a
  have hnb := isNaNint_any w b
  have hcase : (numI a b = -1 ∧ a < b) ∨ (numI a b = 1 ∧ ¬ a < b ∧ b < a) ∨ (numI a b = 0 ∧ ¬ a < b ∧ ¬ b < a) := by
    unfold numI; split
    · exact .inl ⟨rfl, by assumption⟩
    · split
      · exact .inr (.inl ⟨rfl, by assumption, by assumption⟩)
      · exact .inr (.inr ⟨rfl, by assumption, by assumption⟩)
  rcases hcase with ⟨hn, h1⟩ | ⟨hn, h1, h2⟩ | ⟨hn, h1, h2⟩
  all_goals
    rw [hn]
    clear hn
    go_enter Tryz.func153, Tryz.ntmps153
    go_wp2_with fail
    refine hna.mono ?_
    rintro e w1 ⟨rfl, rfl⟩
    go_wp2_with fail
    refine hnb.mono ?_
    rintro e w1 ⟨rfl, rfl⟩
    go_wp2_with fail
    go_ret
    exact ⟨rfl, rfl⟩
def CmpIH (m : Nat) : Prop := ∀ (x y : Val), SizeOf.sizeOf x ≤ m → ∀ (w : World) (sl so sl' so' : Sl), RV w (Lt w.heap.size) x sl so → RV w (Lt w.heap.size) y sl' so' → Calls Tryz.prog 65 #[aggV x sl so, aggV y sl' so'] w (CmpPost (cmpV x y) w)
theorem min_facts (a b : Nat) : ∃ c : Nat, (if a < b then (a : Int) else (b : Int)) = (c : Int) ∧ (if b < a then (b : Int) else (a : Int)) = (c : Int) ∧ c ≤ a ∧ c ≤ b ∧ (c = a ∨ c = b) := by
  by_cases h : a < b
  · exact ⟨a, by rw [if_pos h], by rw [if_neg (by omega)], by omega, by omega, .inl rfl⟩
  · by_cases h' : b < a
    · exact ⟨b, by rw [if_neg h], by rw [if_pos h'], by omega, by omega, .inr rfl⟩
    · exact ⟨a, by rw [if_neg h]; omega, by rw [if_neg h'], by omega, by omega, .inl rfl⟩
theorem inOrderV {m : Nat} (hih : CmpIH m) {x y : Val} (hd : SizeOf.sizeOf x ≤ m + 1) {w : World} {sl so sl' so' : Sl} (h : RV w (Lt w.heap.size) x sl so) (h' : RV w (Lt w.heap.size) y sl' so') :
    Calls Tryz.prog 100 #[.slice sl.a x.l.length sl.c, .slice sl'.a y.l.length sl'.c, .func (.func 65) #[] #[]] w (CmpPost (cmpL x.l y.l) w) := by
  have HI := Lib.hid hih
  clear hih
  obtain ⟨k, b, i, t, l, ok, ov⟩ := x
  obtain ⟨k', b', i', t', l', ok', ov'⟩ := y
  show Calls _ _ #[.slice sl.a l.length sl.c, .slice sl'.a l'.length sl'.c, _] _ (CmpPost (cmpL l l') w)
  cases h with
  | mk bl fl bo fo cl co hl ho hov el rl ek eo ro bk bi bt nl no =>
  cases h' with
  | mk bl' fl' bo' fo' cl' co' hl' ho' hov' el' rl' ek' eo' ro' bk' bi' bt' nl' no' =>
  have hsl : ∀ (j : Nat) (d : Val), l[j]? = some d → SizeOf.sizeOf d ≤ m := fun j d hj => Nat.le_of_lt_succ (Nat.lt_of_lt_of_le (Val.sz_l hj) hd)
  have HSL := Lib.hid hsl
  have HEL := Lib.hid el
  have HRL := Lib.hid rl
  have HEL' := Lib.hid el'
  have HRL' := Lib.hid rl'
  clear hsl el rl ek eo ro hov hd el' rl' ek' eo' ro' hov'
  have hnl : l.length ≤ 140737488355328 := by omega
  have hnl' : l'.length ≤ 140737488355328 := by omega
  obtain ⟨mn, hm1, hm2, hmn1, hmn2, hmn3⟩ := min_facts l.length l'.length
  go_enter Tryz.func100, Tryz.ntmps100
  go_wp2_with fail
  clear hm1 hm2
  go_loopw [14] (fun q wr => ∃ j : Nat, q = .int .i64 j ∧ j ≤ mn ∧ cmpL l l' = cmpL (l.drop j) (l'.drop j) ∧ Ext w wr) (fun q _ => mn - (intOf q).toNat)
  case atStart => exact ⟨0, rfl, Nat.zero_le _, rfl, Ext.refl w⟩
  case round =>
    obtain ⟨j, rfl, hj, hp, hx⟩ := hrel
    have HP := Lib.hid hp
    have HX := Lib.hid hx
    by_cases h1 : j < mn
    · have g1 : (j : Int) < (mn : Int) := by omega
      have g2 : (j : Int) < (l.length : Int) := by omega
      have g3 : (j : Int) < (l'.length : Int) := by omega
      obtain ⟨d, hd⟩ : ∃ d, l[j]? = some d := ⟨_, List.getElem?_eq_getElem (by omega)⟩
      obtain ⟨d', hd'⟩ : ∃ d, l'[j]? = some d := ⟨_, List.getElem?_eq_getElem (by omega)⟩
      have HD := Lib.hid (cmpL_drop hd hd')
      have hag : Agree (Lt w.heap.size) w wr := hx.agree fun _ h => h
      obtain ⟨sa, sc⟩ := sl
      obtain ⟨sa', sc'⟩ := sl'
      obtain ⟨rfl, hlc, hcm⟩ := hl.eq (by omega)
      obtain ⟨rfl, hlc', hcm'⟩ := hl'.eq (by omega)
      have hbl := hl.fits (by omega)
      have hbl' := hl'.fits (by omega)
      obtain ⟨v0, v1, v2, v3, v4, v5⟩ := (HEL.out j d hd).agree hag hbl
      obtain ⟨v0', v1', v2', v3', v4', v5'⟩ := (HEL'.out j d' hd').agree hag hbl'
      have HIC := Lib.hid (fun (W : World) (hW : Ext wr W) =>
        HI.out d d' (HSL.out j d hd) W _ _ _ _ (((HRL.out j d hd).agree (hag.trans (hW.agree fun _ h => Nat.lt_of_lt_of_le h hx.size))).mono fun i hi => Nat.lt_of_lt_of_le hi (Nat.le_trans hx.size hW.size))
          (((HRL'.out j d' hd').agree (hag.trans (hW.agree fun _ h => Nat.lt_of_lt_of_le h hx.size))).mono fun i hi => Nat.lt_of_lt_of_le hi (Nat.le_trans hx.size hW.size)))
      have lb : bl < wr.heap.size := Nat.lt_of_lt_of_le hbl hx.size
      have lb' : bl' < wr.heap.size := Nat.lt_of_lt_of_le hbl' hx.size
      have HSS := Lib.hid (show ∀ W, Ext wr W → W.cell? ⟨bl, fl + j * 6, none⟩ = some (.int .i64 d.kind) ∧ W.cell? ⟨bl, fl + j * 6 + 1, none⟩ = some (.bool d.b) ∧ W.cell? ⟨bl, fl + j * 6 + 2, none⟩ = some (.int .i64 d.i) ∧ W.cell? ⟨bl, fl + j * 6 + 3, none⟩ = some (.string d.t) ∧ W.cell? ⟨bl, fl + j * 6 + 4, none⟩ = some (.slice (cl j).1.a d.l.length (cl j).1.c) ∧ W.cell? ⟨bl, fl + j * 6 + 5, none⟩ = some (.slice (cl j).2.a d.ok.length (cl j).2.c) ∧ W.cell? ⟨bl', fl' + j * 6, none⟩ = some (.int .i64 d'.kind) ∧ W.cell? ⟨bl', fl' + j * 6 + 1, none⟩ = some (.bool d'.b) ∧ W.cell? ⟨bl', fl' + j * 6 + 2, none⟩ = some (.int .i64 d'.i) ∧ W.cell? ⟨bl', fl' + j * 6 + 3, none⟩ = some (.string d'.t) ∧ W.cell? ⟨bl', fl' + j * 6 + 4, none⟩ = some (.slice (cl' j).1.a d'.l.length (cl' j).1.c) ∧ W.cell? ⟨bl', fl' + j * 6 + 5, none⟩ = some (.slice (cl' j).2.a d'.ok.length (cl' j).2.c) from
        fun W hW => ⟨(hW.cell lb).trans v0, (hW.cell lb).trans v1, (hW.cell lb).trans v2, (hW.cell lb).trans v3, (hW.cell lb).trans v4, (hW.cell lb).trans v5, (hW.cell lb').trans v0', (hW.cell lb').trans v1', (hW.cell lb').trans v2', (hW.cell lb').trans v3', (hW.cell lb').trans v4', (hW.cell lb').trans v5'⟩)
      clear hp hx hd hd' hag hbl hbl' v0 v1 v2 v3 v4 v5 v0' v1' v2' v3' v4' v5'
      go_wp2_with fail
      refine wp_region_held_drew (S := (fun w' => Ext wr w')) (by kernel_rfl) (((Ext.refl wr).drew)) (fun hHeld => ?_)
      refine heldT 0 (some 17) HSS hHeld ?_
      refine heldT 1 (some 18) HSS hHeld ?_
      refine heldT 2 (some 19) HSS hHeld ?_
      refine heldT 3 (some 20) HSS hHeld ?_
      refine heldT 4 (some 21) HSS hHeld ?_
      refine heldT 5 (some 22) HSS hHeld ?_
      refine heldT 6 (some 23) HSS hHeld ?_
      refine heldT 7 (some 24) HSS hHeld ?_
      refine heldT 8 (some 25) HSS hHeld ?_
      refine held_call (i := 9) (by kernel_rfl) rfl (by rfl) (fun K hK => ?_)
      go_simp
      (refine (HIC.out _ hHeld).mono ?_; rintro e w2 ⟨rfl, hx2⟩)
      refine hK.out _ _ (hHeld.trans hx2) (fun hHeld => ?_)
      clear hK K
      try simp only [Act.put, List.setIfInBounds_toArray, List.set_cons_zero, List.set_cons_succ]
      refine heldT 10 (some 8) HSS hHeld ?_
      refine wpAnyH_done (by kernel_rfl) ?_ _
      have HX2 := Lib.hid (HX.out.trans hHeld)
      clear hHeld hx2
      by_cases hc : cmpV d d' = 0
      · have hcb : (cmpV d d' != 0) = false := by simp [hc]
        have HC := Lib.hid hc
        clear hc
        go_wp2_with fail
        go_roundw
        case rel => exact ⟨j + 1, by go_num, h1, by rw [HP.out, HD.out, if_neg (by simp [HC.out])], HX2.out⟩
        case measure => simp [intOf]; omega
      · have hcb : (cmpV d d' != 0) = true := bne_iff_ne.2 hc
        have HC := Lib.hid hc
        clear hc
        go_wp2_with fail
        go_ret
        rw [HP.out, HD.out, if_pos HC.out]
        exact ⟨rfl, HX2.out⟩
    · have g1 : ¬ (j : Int) < (mn : Int) := by omega
      have HE := Lib.hid (cmpL_end (l := l) (l' := l') (j := j) (by omega) (by omega) (by omega))
      have hcm := compareint_any wr (l.length : Int) (l'.length : Int)
      clear hp hx
      go_wp2_with fail
      refine hcm.mono ?_
      rintro e w2 ⟨rfl, rfl⟩
      go_wp2_with fail
      go_ret
      rw [HP.out, HE.out]
      exact ⟨rfl, HX.out⟩
def memI (x y : ByteArray) (d d' : Val) : Int := if textI x y ≠ 0 then textI x y else cmpV d d'
theorem cmpM_drop2 {l l' : List Val} {k k' : List ByteArray} {j : Nat} {a b : Val} {x y : ByteArray} (ha : l[j]? = some a) (hb : l'[j]? = some b) (hx : k[j]? = some x) (hy : k'[j]? = some y) :
    cmpM (l.drop j) (k.drop j) (k'.drop j) (l'.drop j) = if memI x y a b ≠ 0 then memI x y a b else cmpM (l.drop (j + 1)) (k.drop (j + 1)) (k'.drop (j + 1)) (l'.drop (j + 1)) := by
  rw [cmpM_drop ha hb hx hy]
  unfold memI
  by_cases h : textI x y = 0 <;> simp [h]
abbrev aggM (k : ByteArray) (d : Val) (sl so : Sl) : Value := .agg #[.string k, .int .i64 d.kind, .bool d.b, .int .i64 d.i, .string d.t, .slice sl.a d.l.length sl.c, .slice so.a d.ok.length so.c]
theorem members_any {m : Nat} (hih : CmpIH m) {d d' : Val} (hd : SizeOf.sizeOf d ≤ m) {x y : ByteArray} {w : World} {sl so sl' so' : Sl} (h : RV w (Lt w.heap.size) d sl so) (h' : RV w (Lt w.heap.size) d' sl' so') :
    Calls Tryz.prog 102 #[aggM x d sl so, aggM y d' sl' so'] w (CmpPost (memI x y d d') w) := by
  have HIC := Lib.hid (fun (W : World) (hW : Ext w W) => hih d d' hd W _ _ _ _ ((h.agree (hW.agree fun _ h => h)).mono fun i hi => Nat.lt_of_lt_of_le hi hW.size) ((h'.agree (hW.agree fun _ h => h)).mono fun i hi => Nat.lt_of_lt_of_le hi hW.size))
  have HT := Lib.hid (fun W => stringsCompare_any W x y)
  clear hih h h' hd
  by_cases ht : textI x y = 0
  · have hm : memI x y d d' = cmpV d d' := by simp [memI, ht]
    have htb : (textI x y != 0) = false := by simp [ht]
    rw [hm]
    clear hm ht
    go_enter Tryz.func102, Tryz.ntmps102
    go_wp2_with fail
    refine (HT.out _).mono ?_
    rintro e w1 ⟨rfl, rfl⟩
    go_wp2_with fail
    refine (HIC.out _ (((Ext.refl w).alloc _ _).alloc _ _)).mono ?_
    rintro e w1 ⟨rfl, hx⟩
    have HX := Lib.hid ((((Ext.refl w).alloc _ _).alloc _ _).trans hx)
    clear hx
    go_wp2_with fail
    go_ret
    exact ⟨rfl, HX.out⟩
  · have hm : memI x y d d' = textI x y := by simp [memI, ht]
    have htb : (textI x y != 0) = true := bne_iff_ne.2 ht
    rw [hm]
    clear hm ht
    go_enter Tryz.func102, Tryz.ntmps102
    go_wp2_with fail
    refine (HT.out _).mono ?_
    rintro e w1 ⟨rfl, rfl⟩
    go_wp2_with fail
    go_ret
    exact ⟨rfl, ((Ext.refl w).alloc _ _).alloc _ _⟩
theorem inOrderM {m : Nat} (hih : CmpIH m) {x y : Val} (hd : SizeOf.sizeOf x ≤ m + 1) {w : World} {sl so sl' so' : Sl} (h : RV w (Lt w.heap.size) x sl so) (h' : RV w (Lt w.heap.size) y sl' so') :
    Calls Tryz.prog 101 #[.slice so.a x.ok.length so.c, .slice so'.a y.ok.length so'.c, .func (.func 102) #[] #[]] w (CmpPost (cmpM x.ov x.ok y.ok y.ov) w) := by
  have HI := Lib.hid hih
  clear hih
  obtain ⟨k, b, i, t, l, ok, ov⟩ := x
  obtain ⟨k', b', i', t', l', ok', ov'⟩ := y
  show Calls _ _ #[.slice so.a ok.length so.c, .slice so'.a ok'.length so'.c, _] _ (CmpPost (cmpM ov ok ok' ov') w)
  cases h with
  | mk bl fl bo fo cl co hl ho hov el rl ek eo ro bk bi bt nl no =>
  cases h' with
  | mk bo' fo' bo' fo' cl' co' hl' ho' hov' el' rl' ek' eo' ro' bk' bi' bt' nl' no' =>
  have hso : ∀ (j : Nat) (d : Val), ov[j]? = some d → SizeOf.sizeOf d ≤ m := fun j d hj => Nat.le_of_lt_succ (Nat.lt_of_lt_of_le (Val.sz_o hj) hd)
  have HSO := Lib.hid hso
  have HEO := Lib.hid eo
  have HRO := Lib.hid ro
  have HEO' := Lib.hid eo'
  have HRO' := Lib.hid ro'
  have HEK := Lib.hid ek
  have HEK' := Lib.hid ek'
  have HOV := Lib.hid hov
  have HOV' := Lib.hid hov'
  clear hso el rl ek eo ro hov hd el' rl' ek' eo' ro' hov'
  have hnl : ok.length ≤ 140737488355328 := by omega
  have hnl' : ok'.length ≤ 140737488355328 := by omega
  obtain ⟨mn, hm1, hm2, hmn1, hmn2, hmn3⟩ := min_facts ok.length ok'.length
  go_enter Tryz.func101, Tryz.ntmps101
  go_wp2_with fail
  clear hm1 hm2
  go_loopw [14] (fun q wr => ∃ j : Nat, q = .int .i64 j ∧ j ≤ mn ∧ cmpM ov ok ok' ov' = cmpM (ov.drop j) (ok.drop j) (ok'.drop j) (ov'.drop j) ∧ Ext w wr) (fun q _ => mn - (intOf q).toNat)
  case atStart => exact ⟨0, rfl, Nat.zero_le _, rfl, Ext.refl w⟩
  case round =>
    obtain ⟨j, rfl, hj, hp, hx⟩ := hrel
    have HP := Lib.hid hp
    have HX := Lib.hid hx
    by_cases h1 : j < mn
    · have g1 : (j : Int) < (mn : Int) := by omega
      have g2 : (j : Int) < (ok.length : Int) := by omega
      have g3 : (j : Int) < (ok'.length : Int) := by omega
      obtain ⟨d, hd⟩ : ∃ d, ov[j]? = some d := ⟨_, List.getElem?_eq_getElem (by rw [HOV.out]; omega)⟩
      obtain ⟨x, hxx⟩ : ∃ d, ok[j]? = some d := ⟨_, List.getElem?_eq_getElem (by omega)⟩
      obtain ⟨x', hxx'⟩ : ∃ d, ok'[j]? = some d := ⟨_, List.getElem?_eq_getElem (by omega)⟩
      obtain ⟨d', hd'⟩ : ∃ d, ov'[j]? = some d := ⟨_, List.getElem?_eq_getElem (by rw [HOV'.out]; omega)⟩
      have HD := Lib.hid (cmpM_drop2 hd hd' hxx hxx')
      have hag : Agree (Lt w.heap.size) w wr := hx.agree fun _ h => h
      obtain ⟨sa, sc⟩ := so
      obtain ⟨sa', sc'⟩ := so'
      obtain ⟨rfl, hlc, hcm⟩ := ho.eq (by omega)
      obtain ⟨rfl, hlc', hcm'⟩ := ho'.eq (by omega)
      have hbl := ho.fits (by omega)
      have hbl' := ho'.fits (by omega)
      obtain ⟨v0, v1, v2, v3, v4, v5⟩ := (HEO.out j d hd).agree hag hbl
      obtain ⟨v0', v1', v2', v3', v4', v5'⟩ := (HEO'.out j d' hd').agree hag hbl'
      have kx := (hag.cell hbl).trans (HEK.out j x hxx).1
      have kx' := (hag.cell hbl').trans (HEK'.out j x' hxx').1
      obtain ⟨c, hcc⟩ : ∃ c, memI x x' d d' = c := ⟨_, rfl⟩
      have HIC := Lib.hid (fun (W : World) (hW : Ext wr W) =>
        members_any HI.out (HSO.out j d hd) (x := x) (y := x') (((HRO.out j d hd).agree (hag.trans (hW.agree fun _ h => Nat.lt_of_lt_of_le h hx.size))).mono fun i hi => Nat.lt_of_lt_of_le hi (Nat.le_trans hx.size hW.size))
          (((HRO'.out j d' hd').agree (hag.trans (hW.agree fun _ h => Nat.lt_of_lt_of_le h hx.size))).mono fun i hi => Nat.lt_of_lt_of_le hi (Nat.le_trans hx.size hW.size)))
      have lb : bo < wr.heap.size := Nat.lt_of_lt_of_le hbl hx.size
      have lb' : bo' < wr.heap.size := Nat.lt_of_lt_of_le hbl' hx.size
      have HSS := Lib.hid (show ∀ W, Ext wr W → W.cell? ⟨bo, fo + j * 7, none⟩ = some (.string x) ∧ W.cell? ⟨bo, fo + j * 7 + 1, none⟩ = some (.int .i64 d.kind) ∧ W.cell? ⟨bo, fo + j * 7 + 2, none⟩ = some (.bool d.b) ∧ W.cell? ⟨bo, fo + j * 7 + 3, none⟩ = some (.int .i64 d.i) ∧ W.cell? ⟨bo, fo + j * 7 + 4, none⟩ = some (.string d.t) ∧ W.cell? ⟨bo, fo + j * 7 + 5, none⟩ = some (.slice (co j).1.a d.l.length (co j).1.c) ∧ W.cell? ⟨bo, fo + j * 7 + 6, none⟩ = some (.slice (co j).2.a d.ok.length (co j).2.c) ∧ W.cell? ⟨bo', fo' + j * 7, none⟩ = some (.string x') ∧ W.cell? ⟨bo', fo' + j * 7 + 1, none⟩ = some (.int .i64 d'.kind) ∧ W.cell? ⟨bo', fo' + j * 7 + 2, none⟩ = some (.bool d'.b) ∧ W.cell? ⟨bo', fo' + j * 7 + 3, none⟩ = some (.int .i64 d'.i) ∧ W.cell? ⟨bo', fo' + j * 7 + 4, none⟩ = some (.string d'.t) ∧ W.cell? ⟨bo', fo' + j * 7 + 5, none⟩ = some (.slice (co' j).1.a d'.l.length (co' j).1.c) ∧ W.cell? ⟨bo', fo' + j * 7 + 6, none⟩ = some (.slice (co' j).2.a d'.ok.length (co' j).2.c) from
        fun W hW => ⟨(hW.cell lb).trans kx, (hW.cell lb).trans v0, (hW.cell lb).trans v1, (hW.cell lb).trans v2, (hW.cell lb).trans v3, (hW.cell lb).trans v4, (hW.cell lb).trans v5, (hW.cell lb').trans kx', (hW.cell lb').trans v0', (hW.cell lb').trans v1', (hW.cell lb').trans v2', (hW.cell lb').trans v3', (hW.cell lb').trans v4', (hW.cell lb').trans v5'⟩)
      rw [hcc] at HD HIC
      clear hcc kx kx' hxx hxx' hp hx hd hd' hag hbl hbl' v0 v1 v2 v3 v4 v5 v0' v1' v2' v3' v4' v5'
      go_wp2_with fail
      refine wp_region_held_drew (S := (fun w' => Ext wr w')) (by kernel_rfl) (((Ext.refl wr).drew)) (fun hHeld => ?_)
      refine heldT 0 (some 17) HSS hHeld ?_
      refine heldT 1 (some 18) HSS hHeld ?_
      refine heldT 2 (some 19) HSS hHeld ?_
      refine heldT 3 (some 20) HSS hHeld ?_
      refine heldT 4 (some 21) HSS hHeld ?_
      refine heldT 5 (some 22) HSS hHeld ?_
      refine heldT 6 (some 23) HSS hHeld ?_
      refine heldT 7 (some 24) HSS hHeld ?_
      refine heldT 8 (some 25) HSS hHeld ?_
      refine held_call (i := 9) (by kernel_rfl) rfl (by rfl) (fun K hK => ?_)
      go_simp
      (refine (HIC.out _ hHeld).mono ?_; rintro e w2 ⟨rfl, hx2⟩)
      refine hK.out _ _ (hHeld.trans hx2) (fun hHeld => ?_)
      clear hK K
      try simp only [Act.put, List.setIfInBounds_toArray, List.set_cons_zero, List.set_cons_succ]
      refine heldT 10 (some 8) HSS hHeld ?_
      refine wpAnyH_done (by kernel_rfl) ?_ _
      have HX2 := Lib.hid (HX.out.trans hHeld)
      clear hHeld hx2
      by_cases hc : c = 0
      · have hcb : (c != 0) = false := by simp [hc]
        have HC := Lib.hid hc
        clear hc
        go_wp2_with fail
        go_roundw
        case rel => exact ⟨j + 1, by go_num, h1, by rw [HP.out, HD.out, if_neg (by simp [HC.out])], HX2.out⟩
        case measure => simp [intOf]; omega
      · have hcb : (c != 0) = true := bne_iff_ne.2 hc
        have HC := Lib.hid hc
        clear hc
        go_wp2_with fail
        go_ret
        rw [HP.out, HD.out, if_pos HC.out]
        exact ⟨rfl, HX2.out⟩
    · have g1 : ¬ (j : Int) < (mn : Int) := by omega
      have HE := Lib.hid (cmpM_end (l := ov) (l' := ov') (k := ok) (k' := ok') (j := j) (by rw [HOV.out, HOV'.out]; omega) (by rw [HOV.out]; omega) (by rw [HOV'.out]; omega))
      have hcm := compareint_any wr (ok.length : Int) (ok'.length : Int)
      clear hp hx
      go_wp2_with fail
      refine hcm.mono ?_
      rintro e w2 ⟨rfl, rfl⟩
      go_wp2_with fail
      go_ret
      rw [HP.out, HE.out, HOV.out, HOV'.out]
      exact ⟨rfl, HX.out⟩
def boolN (b : Bool) : Int := if b then 1 else 0
theorem boolN_cmp (a b : Bool) : numI (boolN a) (boolN b) = boolI a b := by cases a <;> cases b <;> rfl
structure BxS (w : World) (b b' : Bool) (W : World) : Prop where
  ext : Ext w W
  b0 : ∃ v0 v2 v3 v4 v5, Blk W w.heap.size 34 #[v0, .bool b, v2, v3, v4, v5]
  b1 : ∃ v0 v2 v3 v4 v5, Blk W (w.heap.size + 1) 34 #[v0, .bool b', v2, v3, v4, v5]
theorem BxS.drew {w W : World} {b b' : Bool} (h : BxS w b b' W) : BxS w b b' W.drew := by
  obtain ⟨h1, ⟨a0, a2, a3, a4, a5, ha⟩, ⟨c0, c2, c3, c4, c5, hc⟩⟩ := h
  exact ⟨h1.drew, ⟨_, _, _, _, _, ha.ext ((Ext.refl W).drew)⟩, ⟨_, _, _, _, _, hc.ext ((Ext.refl W).drew)⟩⟩
theorem BxS.at0 {w W : World} {b b' : Bool} (h : BxS w b b' W) : ∃ u, W.cell? ⟨w.heap.size, 2, none⟩ = some u ∧ W.frozen? ⟨w.heap.size, 2, none⟩ = false ∧ w.heap.size < W.heap.size := by
  obtain ⟨h1, ⟨a0, a2, a3, a4, a5, ha⟩, -⟩ := h
  exact ⟨_, ha.cell 2, ha.frozen 2, ha.lt⟩
theorem BxS.at1 {w W : World} {b b' : Bool} (h : BxS w b b' W) : ∃ u, W.cell? ⟨w.heap.size + 1, 2, none⟩ = some u ∧ W.frozen? ⟨w.heap.size + 1, 2, none⟩ = false ∧ w.heap.size + 1 < W.heap.size := by
  obtain ⟨h1, -, ⟨a0, a2, a3, a4, a5, ha⟩⟩ := h
  exact ⟨_, ha.cell 2, ha.frozen 2, ha.lt⟩
theorem BxS.set0 {w W : World} {b b' : Bool} (h : BxS w b b' W) (v : Value) : BxS w b b' (W.setCell ⟨w.heap.size, 2, none⟩ v) := by
  obtain ⟨h1, ⟨a0, a2, a3, a4, a5, ha⟩, ⟨c0, c2, c3, c4, c5, hc⟩⟩ := h
  exact ⟨h1.setCell (p := ⟨w.heap.size, 2, none⟩) (Nat.le_refl _) v, ⟨_, _, _, _, _, ha.set_ 2 v⟩, ⟨_, _, _, _, _, ((St.refl (fun b => b = w.heap.size) W).set (p := ⟨w.heap.size, 2, none⟩) (.inr rfl) v).blk hc (by omega)⟩⟩
theorem BxS.set1 {w W : World} {b b' : Bool} (h : BxS w b b' W) (v : Value) : BxS w b b' (W.setCell ⟨w.heap.size + 1, 2, none⟩ v) := by
  obtain ⟨h1, ⟨a0, a2, a3, a4, a5, ha⟩, ⟨c0, c2, c3, c4, c5, hc⟩⟩ := h
  exact ⟨h1.setCell (p := ⟨w.heap.size + 1, 2, none⟩) (by simp) v, ⟨_, _, _, _, _, ((St.refl (fun b => b = w.heap.size + 1) W).set (p := ⟨w.heap.size + 1, 2, none⟩) (.inr rfl) v).blk ha (by omega)⟩, ⟨_, _, _, _, _, hc.set_ 2 v⟩⟩
theorem BxS.ends {w W : World} {b b' : Bool} (h : BxS w b b' W) (v v' : Value) : ((W.setCell ⟨w.heap.size, 2, none⟩ v).setCell ⟨w.heap.size + 1, 2, none⟩ v').cell? ⟨w.heap.size, 2, none⟩ = some v ∧ ((W.setCell ⟨w.heap.size, 2, none⟩ v).setCell ⟨w.heap.size + 1, 2, none⟩ v').cell? ⟨w.heap.size + 1, 2, none⟩ = some v' := by
  obtain ⟨h1, ⟨a0, a2, a3, a4, a5, ha⟩, -⟩ := h.set0 v
  obtain ⟨-, ⟨b0, b2, b3, b4, b5, hb⟩, ⟨c0, c2, c3, c4, c5, hc⟩⟩ := h
  have hc' := ((St.refl (fun b => b = w.heap.size) W).set (p := ⟨w.heap.size, 2, none⟩) (.inr rfl) v).blk hc (by omega)
  have hb' := hb.set_ 2 v
  have hb2 := ((St.refl (fun b => b = w.heap.size + 1) (W.setCell ⟨w.heap.size, 2, none⟩ v)).set (p := ⟨w.heap.size + 1, 2, none⟩) (.inr rfl) v').blk hb' (by omega)
  exact ⟨hb2.cell 2, (hc'.set_ 2 v').cell 2⟩
theorem rankN_any (w : World) (b : Bool) : Calls Tryz.prog 97 #[.bool b] w fun e w' => e = .returned (.int .i64 (boolN b)) ∧ w = w' := rank_any w b
theorem cmp_any (m : Nat) : CmpIH m := by
  induction m with
  | zero => intro d y hd; have := Val.sz_pos d; omega
  | succ m ih =>
  intro x y hd w sl so sl' so' h h'
  have hv := fun (W : World) (hW : Ext w W) => inOrderV ih hd ((h.agree (hW.agree fun _ h => h)).mono fun i hi => Nat.lt_of_lt_of_le hi hW.size) ((h'.agree (hW.agree fun _ h => h)).mono fun i hi => Nat.lt_of_lt_of_le hi hW.size)
  have hm := fun (W : World) (hW : Ext w W) => inOrderM ih hd ((h.agree (hW.agree fun _ h => h)).mono fun i hi => Nat.lt_of_lt_of_le hi hW.size) ((h'.agree (hW.agree fun _ h => h)).mono fun i hi => Nat.lt_of_lt_of_le hi hW.size)
  clear ih h h' hd
  obtain ⟨k, b, i, t, l, ok, ov⟩ := x
  obtain ⟨k', b', i', t', l', ok', ov'⟩ := y
  have HV := Lib.hid (show ∀ (W : World) (hW : Ext w W), Calls Tryz.prog 100 #[.slice sl.a l.length sl.c, .slice sl'.a l'.length sl'.c, .func (.func 65) #[] #[]] W (CmpPost (cmpL l l') W) from hv)
  have HM := Lib.hid (show ∀ (W : World) (hW : Ext w W), Calls Tryz.prog 101 #[.slice so.a ok.length so.c, .slice so'.a ok'.length so'.c, .func (.func 102) #[] #[]] W (CmpPost (cmpM ov ok ok' ov') W) from hm)
  show Calls _ _ #[.agg #[.int .i64 k, .bool b, .int .i64 i, .string t, .slice sl.a l.length sl.c, .slice so.a ok.length so.c], .agg #[.int .i64 k', .bool b', .int .i64 i', .string t', .slice sl'.a l'.length sl'.c, .slice so'.a ok'.length so'.c]] _ _
  have hcv : cmpV (.mk k b i t l ok ov) (.mk k' b' i' t' l' ok' ov') = if k ≠ k' then numI k k' else if k = 2 then boolI b b' else if k = 3 then numI i i' else if k = 4 then textI t t' else if k = 5 then cmpL l l' else if k = 6 then cmpM ov ok ok' ov' else 0 := by
    simp only [cmpV, Val.kind, Val.b, Val.i, Val.t, Val.l, Val.ok, Val.ov]
    rfl
  rw [hcv]
  clear hcv hv hm
  have hXX : Ext w ((w.alloc (.cells #[.int .i64 k, .bool b, .int .i64 i, .string t, .slice sl.a l.length sl.c, .slice so.a ok.length so.c] 34)).alloc (.cells #[.int .i64 k', .bool b', .int .i64 i', .string t', .slice sl'.a l'.length sl'.c, .slice so'.a ok'.length so'.c] 34)) := ((Ext.refl w).alloc _ _).alloc _ _
  have HXX := Lib.hid hXX
  have HK := Lib.hid (fun W => compareKind_any W k k')
  have HI := Lib.hid (fun W a b => compareint64_any W a b)
  have HT := Lib.hid (fun W => stringsCompare_any W t t')
  have HR := Lib.hid (fun W (b : Bool) => rankN_any W b)
  clear hXX
  by_cases hkk : k = k'
  · subst hkk
    have hkb : (k != k) = false := by simp
    rw [if_neg (by simp)]
    by_cases h2 : k = 2
    · subst h2
      rw [if_pos rfl, ← boolN_cmp]
      clear HXX
      go_enter Tryz.func65, Tryz.ntmps65
      go_wp2_with fail
      generalize hW0 : World.alloc (World.alloc _ _) _ = W0
      obtain ⟨hx0, hz0, hb0, hb1⟩ := two_blocks w _ _ _ _ W0 hW0
      clear hW0
      have hB0 : BxS w b b' W0 := ⟨hx0, ⟨_, _, _, _, _, hb0⟩, ⟨_, _, _, _, _, hb1⟩⟩
      have HSS := Lib.hid (show ∀ W, BxS w b b' W → W.cell? ⟨w.heap.size, 1, none⟩ = some (.bool b) ∧ W.cell? ⟨w.heap.size + 1, 1, none⟩ = some (.bool b') from fun W hW => by
        obtain ⟨-, ⟨a0, a2, a3, a4, a5, ha⟩, ⟨c0, c2, c3, c4, c5, hc⟩⟩ := hW
        exact ⟨ha.cell 1, hc.cell 1⟩)
      have HB0 := Lib.hid hB0
      clear hx0 hb0 hb1 hB0 hz0
      refine wp_region_held_drew (S := (fun w' => BxS w b b' w')) (by kernel_rfl) ((HB0.out.drew)) (fun hHeld => ?_)
      refine heldT 0 (some 27) HSS hHeld ?_
      refine heldT 1 (some 28) HSS hHeld ?_
      refine heldT 3 (some 30) HSS hHeld ?_
      refine heldT 4 (some 31) HSS hHeld ?_
      refine held_call (i := 2) (by kernel_rfl) rfl (by rfl) (fun K hK => ?_)
      go_simp
      (refine (HR.out _ b).mono ?_; rintro e w1 ⟨rfl, rfl⟩)
      refine hK.out _ _ (hHeld) (fun hHeld => ?_)
      clear hK K
      try simp only [Act.put, List.setIfInBounds_toArray, List.set_cons_zero, List.set_cons_succ]
      refine heldT 6 (some 33) HSS hHeld ?_
      refine held_call (i := 5) (by kernel_rfl) rfl (by rfl) (fun K hK => ?_)
      go_simp
      (refine (HR.out _ b').mono ?_; rintro e w1 ⟨rfl, rfl⟩)
      refine hK.out _ _ (hHeld) (fun hHeld => ?_)
      clear hK K
      try simp only [Act.put, List.setIfInBounds_toArray, List.set_cons_zero, List.set_cons_succ]
      obtain ⟨u7, c7, f7, l7⟩ := hHeld.at0
      refine held_call (i := 7) (by kernel_rfl) rfl (by rfl) (fun K hK => ?_)
      go_simp
      skip
      refine hK.out _ _ (hHeld.set0 _) (fun hHeld => ?_)
      clear hK K
      try simp only [Act.put, List.setIfInBounds_toArray, List.set_cons_zero, List.set_cons_succ]
      refine heldT 8 (some 34) HSS hHeld ?_
      obtain ⟨u9, c9, f9, l9⟩ := hHeld.at1
      refine held_call (i := 9) (by kernel_rfl) rfl (by rfl) (fun K hK => ?_)
      go_simp
      skip
      refine hK.out _ _ (hHeld.set1 _) (fun hHeld => ?_)
      clear hK K
      try simp only [Act.put, List.setIfInBounds_toArray, List.set_cons_zero, List.set_cons_succ]
      refine wpAnyH_done (by kernel_rfl) ?_ _
      have HH := Lib.hid hHeld
      obtain ⟨q0, q1⟩ := HB0.out.ends (.int .i64 (boolN b)) (.int .i64 (boolN b'))
      clear hHeld
      generalize (W0.setCell ⟨w.heap.size, 2, none⟩ (.int .i64 (boolN b))).setCell ⟨w.heap.size + 1, 2, none⟩ (.int .i64 (boolN b')) = W9 at *
      go_wp2_with fail
      refine (HI.out _ _ _).mono ?_
      rintro e w2 ⟨rfl, rfl⟩
      go_wp2_with fail
      go_ret
      exact ⟨rfl, HH.out.ext⟩
    have h2b : (k == 2) = false := beq_eq_false_iff_ne.2 h2
    by_cases h3 : k = 3
    · subst h3
      rw [if_neg h2, if_pos rfl]
      clear h2
      go_enter Tryz.func65, Tryz.ntmps65
      go_wp2_with fail
      refine (HI.out _ _ _).mono ?_
      rintro e w2 ⟨rfl, rfl⟩
      go_wp2_with fail
      go_ret
      exact ⟨rfl, HXX.out⟩
    have h3b : (k == 3) = false := beq_eq_false_iff_ne.2 h3
    by_cases h4 : k = 4
    · subst h4
      rw [if_neg h2, if_neg h3, if_pos rfl]
      clear h2 h3
      go_enter Tryz.func65, Tryz.ntmps65
      go_wp2_with fail
      refine (HT.out _).mono ?_
      rintro e w2 ⟨rfl, rfl⟩
      go_wp2_with fail
      go_ret
      exact ⟨rfl, HXX.out⟩
    have h4b : (k == 4) = false := beq_eq_false_iff_ne.2 h4
    rw [if_neg h2, if_neg h3, if_neg h4]
    by_cases h5 : k = 5
    · subst h5
      rw [if_pos rfl]
      clear h2 h3 h4
      go_enter Tryz.func65, Tryz.ntmps65
      go_wp2_with fail
      refine (HV.out _ HXX.out).mono ?_
      rintro e w2 ⟨rfl, hx⟩
      have HX := Lib.hid hx
      clear hx
      go_wp2_with fail
      go_ret
      exact ⟨rfl, HXX.out.trans HX.out⟩
    have h5b : (k == 5) = false := beq_eq_false_iff_ne.2 h5
    rw [if_neg h5]
    by_cases h6 : k = 6
    · subst h6
      rw [if_pos rfl]
      clear h2 h3 h4 h5
      go_enter Tryz.func65, Tryz.ntmps65
      go_wp2_with fail
      refine (HM.out _ HXX.out).mono ?_
      rintro e w2 ⟨rfl, hx⟩
      have HX := Lib.hid hx
      clear hx
      go_wp2_with fail
      go_ret
      exact ⟨rfl, HXX.out.trans HX.out⟩
    have h6b : (k == 6) = false := beq_eq_false_iff_ne.2 h6
    rw [if_neg h6]
    clear h2 h3 h4 h5 h6
    go_enter Tryz.func65, Tryz.ntmps65
    go_wp2_with fail
    go_ret
    exact ⟨rfl, HXX.out⟩
  · have hkb : (k != k') = true := bne_iff_ne.2 hkk
    rw [if_pos hkk]
    clear hkk
    go_enter Tryz.func65, Tryz.ntmps65
    go_wp2_with fail
    refine (HK.out _).mono ?_
    rintro e w2 ⟨rfl, rfl⟩
    go_wp2_with fail
    go_ret
    exact ⟨rfl, HXX.out⟩
theorem mod_apart {a b k : Nat} (h : a < b) (hk : b < a + k) : a % k ≠ b % k := by
  intro e
  have h1 := Nat.sub_mod_eq_zero_of_mod_eq e.symm
  rw [Nat.mod_eq_of_lt (by omega)] at h1
  omega
def Holds (keep f : Nat) (xs ring : List Value) : Prop := ∀ j, j < xs.length → xs.length ≤ j + keep → ring[(f + j) % keep]? = xs[j]?
theorem Holds.put {keep f : Nat} {xs ring : List Value} (h : Holds keep f xs ring) (hl : ring.length = keep) (hp : 1 ≤ keep) (x : Value) : Holds keep f (xs ++ [x]) (ring.set ((f + xs.length) % keep) x) := by
  intro j hj hk
  rw [List.length_append] at hj hk
  simp only [List.length_cons, List.length_nil] at hj hk
  by_cases e : j = xs.length
  · subst e
    rw [List.getElem?_set_self (by rw [hl]; exact Nat.mod_lt _ hp)]
    simp
  · rw [List.getElem?_set_ne (fun e' => mod_apart (a := f + j) (b := f + xs.length) (k := keep) (by omega) (by omega) e'.symm), h j (by omega) (by omega), List.getElem?_append_left (by omega)]
def pk (i : Int) : Nat := (IntKind.u64.wrap i % 5).toNat
theorem SlAt.same {F F' : Nat → Prop} {s : Sl} {n b o b' o' : Nat} (h : SlAt F s n b o) (h' : SlAt F' s n b' o') (hn : 0 < n) : b = b' ∧ o = o' := by
  have e := (h.eq hn).1.symm.trans (h'.eq hn).1
  simpa using e
theorem Val.ext_of {d d' : Val} (h1 : d.kind = d'.kind) (h2 : d.b = d'.b) (h3 : d.i = d'.i) (h4 : d.t = d'.t) (h5 : d.l = d'.l) (h6 : d.ok = d'.ok) (h7 : d.ov = d'.ov) : d = d' := by
  cases d; cases d'
  simp only [Val.kind, Val.b, Val.i, Val.t, Val.l, Val.ok, Val.ov] at *
  subst_vars; rfl
theorem valueSame_any {w : World} {x y : Val} {sl so sl' so' : Sl} (h : RV w (Lt w.heap.size) x sl so) (h' : RV w (Lt w.heap.size) y sl' so') :
    Calls Tryz.prog 39 #[aggV x sl so, aggV y sl' so'] w fun e w' => e = .returned (.bool (decide (cmpV x y = 0))) ∧ Ext w w' := by
  have hc : ∀ W, Ext w W → Calls Tryz.prog 65 #[aggV x sl so, aggV y sl' so'] W (CmpPost (cmpV x y) W) := fun W hW =>
    cmp_any _ x y (Nat.le_refl _) W _ _ _ _ ((h.agree (hW.agree fun _ h => h)).mono fun i hi => Nat.lt_of_lt_of_le hi hW.size) ((h'.agree (hW.agree fun _ h => h)).mono fun i hi => Nat.lt_of_lt_of_le hi hW.size)
  have HC := Lib.hid hc
  have hb : (cmpV x y == 0) = decide (cmpV x y = 0) := by by_cases h : cmpV x y = 0 <;> simp [h]
  have HB := Lib.hid hb
  clear hc h h' hb
  obtain ⟨k, b, i, t, l, ok, ov⟩ := x
  obtain ⟨k', b', i', t', l', ok', ov'⟩ := y
  go_enter Tryz.func39, Tryz.ntmps39
  go_wp2_with fail
  generalize hW0 : World.alloc (World.alloc _ _) _ = W0
  obtain ⟨hx0, hz0, hb0, hb1⟩ := two_blocks w _ _ _ _ W0 hW0
  clear hW0
  refine (HC.out _ hx0).mono ?_
  rintro e w1 ⟨rfl, hx⟩
  go_wp2_with fail
  go_ret
  exact ⟨rfl, hx0.trans hx⟩
theorem IsT.leads {w : World} {F : Nat → Prop} {T : RT} (h : IsT w F T) {p : Option Addr} (hp : rootV T = .pointer p) : Leads w p := by
  intro a ha
  subst ha
  match T, h, hp with
  | none, _, hp => simp [rootV] at hp
  | some ⟨n, t⟩, h, hp =>
    have h : IsN w F n t := h
    obtain ⟨-, _, _, _, _, -, hb⟩ := h.cells
    have e : a = ⟨addr n t, 0, none⟩ := by simpa [rootV, ptr] using hp.symm
    subst e
    exact ⟨_, _, hb⟩
end Go.Proofs.YtechahocffcbpaaGreatDoor
namespace Go.Proofs.YtechahocffcbpaaGreatDoor
open Go.RowKit Go.Maps Go.Shelf
set_option linter.unusedVariables false
set_option linter.unusedSimpArgs false
theorem look_ov1 {W : World} {mb : Option Nat} {C : AL SV} (hm : OvMap W mb C) {k : ByteArray} (hk : k.size ≤ maxLen) :
    (Instr.lookup 26 (.map mb) (.string k) false).run Tryz.prog W = .ok (hadA C k).val W := by
  cases mb with
  | none =>
    have hC : C = [] := hm
    subst hC
    rw [Maps.look_nil false strKey Tryz.underlying26 (zeroSlot W) (keyA k hk)]
    rfl
  | some b =>
    obtain ⟨es, clock, hb, F, hs, hD⟩ := hm
    rcases Maps.fit_look false strKey Tryz.underlying26 (zeroSlot W) hb F (keyA k hk) with ⟨hrun, _, hat⟩ | ⟨e0, y, _, _, hrun, hRv, hat, _⟩
    · rw [hrun]
      have h1 := hat .nil
      rw [← hD, at_mapA] at h1
      unfold hadA
      cases hg : getA C k with
      | none => rfl
      | some s => rw [hg] at h1; cases h1
    · rw [hrun]
      have h1 := hat .nil
      rw [← hD, at_mapA] at h1
      have h2 := hat (.held (.bool true))
      rw [← hD, at_mapA] at h2
      unfold hadA
      cases hg : getA C k with
      | none => rw [hg] at h1 h2; rw [← h1] at h2; cases h2
      | some s =>
        rw [hg] at h1
        obtain ⟨y1, y2⟩ := y
        dsimp only at h1
        rw [← h1] at hRv
        rw [heldR_inv hRv]; rfl
theorem keys_sorted {C : AL SV} (hC : SortedA C) {ss : List (List UInt8)} (hp : ss.Perm (strKeys (mapA SV.val C))) : (ss.mergeSort fun x y => decide (x ≤ y)).map encStr = C.map fun p => .string p.1 := by
  rw [strKeys_mapA] at hp
  have hm : (ss.mergeSort fun x y => decide (x ≤ y)).Perm ss := List.mergeSort_perm ..
  have hr : (C.map Prod.fst).Pairwise fun x y => klt x y = true := List.pairwise_map.2 hC
  have hb : ((ss.mergeSort fun x y => decide (x ≤ y)).map textO).map bytesO = ss.mergeSort fun x y => decide (x ≤ y) := bytesO_back _
  have hpt : ((ss.mergeSort fun x y => decide (x ≤ y)).map textO).Perm (C.map Prod.fst) := by
    have h1 := ((hm.trans hp).map textO)
    rw [List.map_map] at h1
    exact h1
  have hnd : ((ss.mergeSort fun x y => decide (x ≤ y)).map textO).Nodup := hpt.nodup_iff.2 (hr.imp fun {a b} h e => klt_ne h e)
  have he : (ss.mergeSort fun x y => decide (x ≤ y)).map textO = C.map Prod.fst := rise_ext (rise_sorted (by rw [hb]; exact leB_sorted ss) hnd) hr fun k => hpt.mem_iff
  have h2 : (ss.mergeSort fun x y => decide (x ≤ y)).map encStr = ((ss.mergeSort fun x y => decide (x ≤ y)).map textO).map .string := by rw [List.map_map]; rfl
  rw [h2, he, List.map_map]; rfl
theorem own_slice {w : World} {base e size n : Nat} {v : Value} {xs : List Value} (h : w.ownsRow base e size v n xs) : ∃ s : Sl, v = .slice s.a n s.c := by
  rcases h.2 with ⟨rfl, rfl⟩ | ⟨g, cap, cur, rfl, r⟩
  · exact ⟨Sl.none, rfl⟩
  · exact ⟨⟨some ⟨g, 0, none⟩, cap⟩, rfl⟩
def CB (F : Nat → Prop) (w wr : World) (b : Nat) : Prop := (F b ∨ w.heap.size + 2 ≤ b) ∧ b < wr.heap.size
theorem com_next {F : Nat → Prop} {w w2 wr w7 w8 : World} {T' : RT} {p' : Option Addr} {v0 : Value} (hz : w.heap.size + 2 ≤ wr.heap.size) (hF : ∀ b, F b → b < w.heap.size) (h7 : Ext wr w7) (h8 : Ext w7 w8) (hT : IsT w8 (Up (CB F w wr) w7 w8) T') (hp : rootV T' = .pointer p') (hb : Blk wr (w.heap.size + 1) 25 #[v0])
    (hs : Sb (fun c => c = w.heap.size + 1) w2 wr) :
    IsT (w8.setCell ⟨w.heap.size + 1, 0, none⟩ (.pointer p')) (CB F w (w8.setCell ⟨w.heap.size + 1, 0, none⟩ (.pointer p'))) T' ∧ Blk (w8.setCell ⟨w.heap.size + 1, 0, none⟩ (.pointer p')) (w.heap.size + 1) 25 #[rootV T'] ∧ Sb (fun c => c = w.heap.size + 1) w2 (w8.setCell ⟨w.heap.size + 1, 0, none⟩ (.pointer p')) := by
  have s7 := h7.size
  have s8 := h8.size
  refine ⟨(hT.agree (Agree.setCell w8 ⟨w.heap.size + 1, 0, none⟩ _ ?_)).mono fun i hi => ?_, ?_, (hs.ext (h7.trans h8)).set (p := ⟨w.heap.size + 1, 0, none⟩) (.inr rfl) _⟩
  · rintro (hf | hf)
    · rcases hf.1 with h | h
      · have := hF _ h; dsimp only at this; omega
      · dsimp only at h; omega
    · have : w7.heap.size ≤ w.heap.size + 1 := hf.1
      omega
  · rw [CB, World.size_setCell]
    rcases hi with hi | hi
    · exact ⟨hi.1, by have := hi.2; omega⟩
    · exact ⟨.inr (by have := hi.1; omega), hi.2⟩
  · rw [hp]; exact (hb.ext (h7.trans h8)).set_ 0 _
def CommitPost (H : Nat → Prop) (O : Nat) (d : OD) (w : World) (e : Ending) (w' : World) : Prop :=
  ∃ T' : RT, e = .returned (treeV T') ∧ OkR T' ∧ IsT w' (Up (OvF H w O d) w w') T' ∧ entsT T' = comE (entsT d.T) (optA d.C) (entsT d.T) ∧ Nw w w' ∧ (idleC (entsT d.T) (optA d.C) → T' = d.T)
theorem comE_at {B : List Ent} {C : AL SV} {j : Nat} {p : ByteArray × SV} (h : C[j]? = some p) (t : List Ent) : comE B ((optA C).drop j) t = comE B ((optA C).drop (j + 1)) (match p.2.opt with
    | some v => if (getE B p.1).any (fun was => decide (cmpV was v = 0)) then t else insE t p.1 v
    | none => if (getE B p.1).isSome then delE t p.1 else t) := by
  have h1 : (optA C)[j]? = some (p.1, p.2.opt) := by unfold optA; rw [List.getElem?_map, h]; rfl
  obtain ⟨h2, h3⟩ := List.getElem?_eq_some_iff.1 h1
  conv => lhs; rw [List.drop_eq_getElem_cons h2, h3]
  cases p.2.opt <;> rfl
theorem idle_at {B : List Ent} {C : AL SV} (hC : SortedA C) {j : Nat} {p : ByteArray × SV} (h : C[j]? = some p) (hi : idleC B (optA C)) : match p.2.opt with
    | some v => (getE B p.1).any (fun was => decide (cmpV was v = 0)) = true
    | none => getE B p.1 = none :=
  hi p.1 p.2.opt (by rw [getA_opt, getA_mem hC (List.mem_of_getElem? h)]; rfl)
theorem own_atO {base : Nat} {w : World} {t : TypeId} {s : Sl} {n : Nat} {xs : List Value} (h : w.ownsRow base t 1 (.slice s.a n s.c) n xs) {i : Nat} {v : Value} (hi : xs[i]? = some v) : ∃ g, s.a = some ⟨g, 0, none⟩ ∧ s.row = some g ∧ base ≤ g ∧ g < w.heap.size ∧ n ≤ s.c ∧ s.c ≤ maxLen ∧ w.cell? ⟨g, i, none⟩ = some v := by
  have hil := (List.getElem?_eq_some_iff.1 hi).1
  have hn : xs.length = n * 1 := h.1
  obtain ⟨g, cap, rfl, hg, h1, h2, hf⟩ := own_block h (by omega)
  obtain ⟨b, o, h3, h4, h5⟩ := Rd.of_own h
  obtain ⟨e1, -, -⟩ := h3.eq (by omega)
  obtain ⟨rfl, rfl⟩ : g = b ∧ 0 = o := by simpa using e1
  exact ⟨g, rfl, rfl, hg, hf.lt, h1, h2, by have := h5 i v hi; rwa [Nat.zero_add] at this⟩
theorem commit_some {H : Nat → Prop} {w : World} {O : Nat} {d : OD} (h : OvAt H w O d) {b : Nat} (hm : d.mb = some b) (hl : (entsT d.T).length + d.C.length ≤ 1000000) : Calls Tryz.prog 12 #[.pointer (some ⟨O, 0, none⟩)] w (CommitPost H O d w) := by
  have c0 : w.cell? ⟨O, 0, none⟩ = some (rootV d.T) := h.blk.cell 0
  have c1 : w.cell? ⟨O, 1, none⟩ = some (.map (some b)) := by have := h.blk.cell 1; rw [hm] at this; exact this
  have lO := h.blk.lt
  obtain ⟨r, hr⟩ := rootV_ptr d.T
  rw [hr] at c0
  have l1 : O < w.heap.size + 1 := by omega
  have l2 : O < w.heap.size + 1 + 1 := by omega
  have hF : ∀ b, OvF H w O d b → b < w.heap.size := fun b hb => hb.1
  obtain ⟨n, hn⟩ : ∃ n, d.C.length = n := ⟨_, rfl⟩
  rw [hn] at hl
  obtain ⟨n0, hn0⟩ : ∃ n, (entsT d.T).length = n := ⟨_, rfl⟩
  rw [hn0] at hl
  have HAT := Lib.hid h
  have HM := Lib.hid hm
  have HN := Lib.hid hn
  have HN0 := Lib.hid hn0
  have HR := Lib.hid hr
  have HF := Lib.hid hF
  have LO := Lib.hid lO
  clear h hm hr hF hn hn0
  go_enter Tryz.func12, Tryz.ntmps12
  go_wp2_with fail
  generalize hW0 : World.alloc _ _ = W0
  obtain ⟨hx0, hz0, hb0, hb1⟩ := two_blocks w _ _ _ _ W0 hW0
  have HX0 := Lib.hid hx0
  have HB0 := Lib.hid hb0
  have HB1 := Lib.hid hb1
  have HZ0 := Lib.hid hz0
  clear hW0 hx0 hb0 hb1 l1 l2 hz0
  refine ((callsIn_wide (n := 5)).1 (Tryz.maps_Keys_38 (some b) W0)).mono ?_
  rintro e w' ⟨rfl, rfl⟩
  go_wp2_with fail
  have hown : W0.ownsMap Tryz.prog 9 heldR b d.C.length (mapA SV.val d.C) := by
    have h1 := HAT.out.map
    rw [HM.out] at h1
    have hb := HAT.out.map.lt HM.out
    exact ownsMap_heap h1 ((Nw.of HX0.out).block b hb id)
  have hsz : Maps.size (mapA SV.val d.C) = n := by rw [size_mapA]; exact HN.out
  refine ((callsIn_wide (n := 5)).1 (Tryz.slices_Sorted_keys_37_38 b d.C.length (mapA SV.val d.C) heldR W0 hown (by rw [hsz]; unfold maxLen; omega) (by rw [hsz]; omega))).mono ?_
  rintro e w2 ⟨v, ss, rfl, hp, hrow, hnil, hbl⟩
  have hlen : ss.length = n := by have := hp.length_eq; rw [strKeys_mapA, List.length_map, HN.out] at this; exact this
  rw [keys_sorted HAT.out.sorted hp, hlen] at hrow
  obtain ⟨s, rfl⟩ := own_slice hrow
  rw [World.size_alloc, HZ0.out] at hrow
  have hn2 : Nw W0 w2 := (Nw.of ((Ext.refl W0).alloc #[.map (some b)] 26)).trans (Sb.new hbl)
  have hn02 : Nw w w2 := (Nw.of HX0.out).trans hn2
  have HN2 := Lib.hid hn02
  have HB0' := Lib.hid (hn2.blk HB0.out)
  have HB1' := Lib.hid (hn2.blk HB1.out)
  have HROW := Lib.hid hrow
  have hz2 : w.heap.size + 2 ≤ w2.heap.size := by have := hn2.size; have := HZ0.out; omega
  have HZ2 := Lib.hid hz2
  clear hown hsz hp hrow hnil hbl hn2 hn02 hlen c0 c1 HB0 HB1 hz2
  go_wp2_with fail
  go_loopw [23] (fun q wr => ∃ (j : Nat) (T1 : RT), q = .int .i64 j ∧ j ≤ n ∧ OkR T1 ∧ IsT wr (CB (OvF H w O d) w wr) T1 ∧ comE (entsT d.T) ((optA d.C).drop j) (entsT T1) = comE (entsT d.T) (optA d.C) (entsT d.T) ∧ (entsT T1).length ≤ n0 + j ∧ Blk wr (w.heap.size + 1) 25 #[rootV T1] ∧ Sb (fun c => c = w.heap.size + 1) w2 wr ∧ (idleC (entsT d.T) (optA d.C) → T1 = d.T)) (fun q _ => n - (intOf q).toNat)
  case atStart => exact ⟨0, d.T, rfl, Nat.zero_le _, HAT.out.ok, (HAT.out.tree.agree (Nw.agree HN2.out HF.out)).mono fun i hi => ⟨.inl hi, Nat.lt_of_lt_of_le hi.1 HN2.out.size⟩, rfl, by rw [HN0.out]; exact Nat.le_refl _, by rw [HR.out]; exact HB1'.out, Sb.refl _ _, fun _ => rfl⟩
  case round =>
    obtain ⟨j, T1, rfl, hj, ok, hT, hce, hlT, hbT, hsb, hid⟩ := hrel
    obtain ⟨p1, hp1⟩ := rootV_ptr T1
    have hzr : w.heap.size + 2 ≤ wr.heap.size := Nat.le_trans HZ2.out hsb.size
    by_cases hlt : j < n
    · have g1 : decide ((j : Int) < (n : Int)) = true := decide_eq_true (by omega)
      have g1' : (j : Int) < (n : Int) := by omega
      obtain ⟨p, hpj⟩ : ∃ p, d.C[j]? = some p := ⟨_, List.getElem?_eq_getElem (by rw [HN.out]; exact hlt)⟩
      have hpm := List.mem_of_getElem? hpj
      obtain ⟨g, hsa, hsrow, hbase, hgl, hnc, hcm, hcell⟩ := own_atO HROW.out (i := j) (v := .string p.1) (by rw [List.getElem?_map, hpj]; rfl)
      obtain ⟨sa, sc⟩ := s
      dsimp only at hsa hnc hcm
      subst hsa
      have lOw := LO.out
      have hn2r : Sb (fun c => c = w.heap.size + 1) w wr := (HN2.out.any _).trans hsb
      have hag : Agree (OvF H w O d) w wr := fun i hi => hn2r.block i hi.1 (by have := hi.1; omega)
      have kc : wr.cell? ⟨g, j, none⟩ = some (.string p.1) := (hsb.cell hgl (by omega)).trans hcell
      have kl : g < wr.heap.size := Nat.lt_of_lt_of_le hgl hsb.size
      have hob := hn2r.blk HAT.out.blk (by omega)
      rw [HR.out, HM.out] at hob
      have c0 : wr.cell? ⟨O, 0, none⟩ = some (.pointer r) := hob.cell 0
      have c1 : wr.cell? ⟨O, 1, none⟩ = some (.map (some b)) := hob.cell 1
      have lOr := hob.lt
      obtain ⟨hkm, hsv⟩ := HAT.out.vals p hpm
      have hlk := look_ov1 (W := wr) (HAT.out.map.heap fun b hb => hn2r.block b (HAT.out.map.lt hb) (by have := HAT.out.map.lt hb; omega)) hkm
      rw [HM.out, show hadA d.C p.1 = p.2 by unfold hadA; rw [getA_mem HAT.out.sorted hpm]; rfl] at hlk
      have hCB : ∀ i, CB (OvF H w O d) w wr i → i < wr.heap.size := fun i hi => hi.2
      have hlc : (entsT T1).length ≤ 1000000 := by omega
      have hv : RV wr (Lt wr.heap.size) p.2.v p.2.sl p.2.so := (hsv.1.agree hag).mono fun i hi => by have := hi.1; show i < _; omega
      have hget := fun (W : World) (hW : Ext wr W) => treeGet_any (k := p.1) (w := W) (F := OvF H w O d) (T := d.T) (fun i hi => by have := hi.1; have := hW.size; omega) (HAT.out.tree.agree (hag.trans (hW.agree fun i hi => by have := hi.1; omega))) HAT.out.ok (by rw [HN0.out]; omega)
      have hput := fun (W : World) (hW : Ext wr W) => put_any (k := p.1) (v := p.2.v) (sl := p.2.sl) (so := p.2.so) (fun b hb => Nat.lt_of_lt_of_le (hCB b hb) hW.size) (hT.agree (hW.agree hCB)) ok hlc hkm ((hv.agree (hW.agree fun _ h => h)).mono fun i hi => Nat.lt_of_lt_of_le hi hW.size)
      have hdel := fun (W : World) (hW : Ext wr W) => delete_any (fun b hb => Nat.lt_of_lt_of_le (hCB b hb) hW.size) (hT.agree (hW.agree hCB)) ok hlc p.1
      have hsame := fun (W : World) (hW : Ext wr W) (x : Val) (xl xo : Sl) (hx : RV W (Lt W.heap.size) x xl xo) => valueSame_any hx ((hv.agree (hW.agree fun _ h => h)).mono (G := Lt W.heap.size) fun i hi => Nat.lt_of_lt_of_le hi hW.size)
      have hnext := comE_at (B := entsT d.T) hpj (entsT T1)
      have hidl := idle_at (B := entsT d.T) HAT.out.sorted hpj
      rw [hce] at hnext
      unfold GetPost at hget
      rw [treeV, HR.out] at hget
      rw [treeV, hp1] at hput hdel
      have hx3 : Ext wr (wr.alloc (.cells p.2.cells 85)) := (Ext.refl wr).alloc _ _
      have hb3 := Blk.new wr 85 p.2.cells
      have hkeep : ∀ W, Ext wr W → IsT W (CB (OvF H w O d) w W) T1 ∧ Blk W (w.heap.size + 1) 25 #[rootV T1] ∧ Sb (fun c => c = w.heap.size + 1) w2 W := fun W hW =>
        ⟨(hT.agree (hW.agree hCB)).mono fun i hi => ⟨hi.1, Nat.lt_of_lt_of_le hi.2 hW.size⟩, hbT.ext hW, hsb.ext hW⟩
      have hmore : ∀ w7 w8 T' p', Ext wr w7 → Ext w7 w8 → IsT w8 (Up (CB (OvF H w O d) w wr) w7 w8) T' → rootV T' = .pointer p' → _ := fun w7 w8 T' p' h7 h8 h1 h2 => com_next (w2 := w2) hzr HF.out h7 h8 h1 h2 hbT hsb
      obtain ⟨k, has, v, sl, so⟩ := p
      dsimp only at kc hkm hlk hv hget hput hdel hsame hnext hidl hx3 hb3
      obtain ⟨og, hog⟩ : ∃ o, getE (entsT d.T) k = o := ⟨_, rfl⟩
      obtain ⟨gv, hgv⟩ : ∃ g, og.getD zeroV = g := ⟨_, rfl⟩
      obtain ⟨gb, hgb⟩ : ∃ g, og.isSome = g := ⟨_, rfl⟩
      rw [hog] at hget hnext hidl
      rw [hgv, hgb] at hget
      have HSS := Lib.hid (show ∀ W, Ext (wr.alloc (.cells (SV.cells ⟨has, v, sl, so⟩) 85)) W → (W.cell? ⟨wr.heap.size, 0, none⟩ = some (.bool has) ∧ W.cell? ⟨wr.heap.size, 1, none⟩ = some (.int .i64 v.kind) ∧ W.cell? ⟨wr.heap.size, 2, none⟩ = some (.bool v.b) ∧ W.cell? ⟨wr.heap.size, 3, none⟩ = some (.int .i64 v.i) ∧ W.cell? ⟨wr.heap.size, 4, none⟩ = some (.string v.t) ∧ W.cell? ⟨wr.heap.size, 5, none⟩ = some (.slice sl.a v.l.length sl.c) ∧ W.cell? ⟨wr.heap.size, 6, none⟩ = some (.slice so.a v.ok.length so.c)) ∧
          W.cell? ⟨w.heap.size + 1, 0, none⟩ = some (.pointer p1) ∧ W.frozen? ⟨w.heap.size + 1, 0, none⟩ = false ∧ w.heap.size + 1 < W.heap.size ∧ wr.heap.size < W.heap.size from fun W hW => by
        have h1 := hbT.ext (hx3.trans hW)
        rw [hp1] at h1
        exact ⟨(hb3.ext hW).c7, h1.cell 0, h1.frozen 0, h1.lt, (hb3.ext hW).lt⟩)
      have HX3 := Lib.hid hx3
      have HGET := Lib.hid hget
      have HPUT := Lib.hid hput
      have HDEL := Lib.hid hdel
      have HSAME := Lib.hid hsame
      have HNEXT := Lib.hid hnext
      have HIDL := Lib.hid hidl
      have HKEEP := Lib.hid hkeep
      have HMORE := Lib.hid hmore
      have HOK := Lib.hid ok
      have HLT := Lib.hid hlT
      have HIDE := Lib.hid hid
      clear hpj hpm hcell hn2r hag hob hkm hsv hv hget hput hdel hsame hnext hidl hx3 hb3 hkeep hmore hog ok hT hce hlT hbT hsb hid hCB hlc hp1
      go_wp2_with fail
      dsimp only [SV.cells] at HSS HX3
      generalize hW3 : wr.alloc (.cells _ _) = W3 at *
      clear hW3 kc kl c0 c1 lOr hlk
      refine (HGET.out W3 HX3.out).mono ?_
      rintro e w4 ⟨gl, gq, rfl, hx4, hrv⟩
      have hx5 := (Ext.refl w4).alloc #[.int .i64 gv.kind, .bool gv.b, .int .i64 gv.i, .string gv.t, .slice gl.a gv.l.length gl.c, .slice gq.a gv.ok.length gq.c] 34
      have hb5 := Blk.new w4 34 #[.int .i64 gv.kind, .bool gv.b, .int .i64 gv.i, .string gv.t, .slice gl.a gv.l.length gl.c, .slice gq.a gv.ok.length gq.c]
      have hrv5 := (hrv.agree (hx5.agree fun b hb => hb.2)).mono (G := Lt (w4.alloc (.cells #[.int .i64 gv.kind, .bool gv.b, .int .i64 gv.i, .string gv.t, .slice gl.a gv.l.length gl.c, .slice gq.a gv.ok.length gq.c] 34)).heap.size) fun b hb => Nat.lt_of_lt_of_le hb.2 hx5.size
      have HSM := Lib.hid (HSAME.out _ ((HX3.out.trans hx4).trans hx5) gv gl gq hrv5)
      have HXA := Lib.hid (HX3.out.trans hx4)
      have HXB := Lib.hid ((HX3.out.trans hx4).trans hx5)
      have HX5 := Lib.hid (hx4.trans hx5)
      obtain ⟨⟨q0, q1, q2, q3, q4, q5, q6⟩, q7, q8, q9, q10⟩ := HSS.out _ hx4
      clear hx4 hrv hx5 hb5 hrv5 HSAME HGET
      cases gb with
      | false =>
        have ho : og = none := by cases og with
          | none => rfl
          | some x => cases hgb
        cases has with
        | false =>
          have hne := HNEXT.out
          simp only [SV.opt, ho] at hne
          have HE := Lib.hid hne.symm
          clear hne
          go_wp2_with fail
          obtain ⟨e1, e2, e3⟩ := HKEEP.out _ HXB.out
          go_roundw
          case rel => exact ⟨j + 1, T1, by go_num, hlt, HOK.out, e1, HE.out, by have := HLT.out; omega, e2, e3, HIDE.out⟩
          case measure => simp [intOf]; omega
        | true =>
          have hne := HNEXT.out
          simp only [SV.opt, ho, if_true, Option.any_none, Bool.false_eq_true, if_false] at hne
          have HE := Lib.hid hne.symm
          have hni := HIDL.out
          have HNI := Lib.hid (show ¬ (match (SV.opt ⟨true, v, sl, so⟩) with
            | some v => og.any (fun was => decide (cmpV was v = 0)) = true
            | none => og = none) by simp [SV.opt, ho])
          clear hne hni
          go_wp2_with fail
          refine (HPUT.out _ HXB.out).mono ?_
          rintro e w8 ⟨T', rfl, hpr, hT', hx8⟩
          obtain ⟨p', hp'⟩ := rootV_ptr T'
          rw [treeV, hp']
          obtain ⟨-, q7, q8, q9, q10⟩ := HSS.out w8 (HX5.out.trans hx8)
          have HNX := Lib.hid (HMORE.out _ _ T' p' HXB.out hx8 hT' hp')
          have HPR := Lib.hid hpr
          clear hpr hT' hx8 hp'
          go_wp2_with fail
          obtain ⟨e1, e2, e3⟩ := HNX.out
          go_roundw
          case rel => exact ⟨j + 1, T', by go_num, hlt, HPR.out.ok HOK.out, e1, by rw [HPR.out.ents HOK.out]; exact HE.out, by rw [HPR.out.ents HOK.out]; have := HLT.out; rcases insE_len (entsT T1) k v with h | h <;> omega, e2, e3, fun hi => absurd (HIDL.out hi) HNI.out⟩
          case measure => simp [intOf]; omega
      | true =>
        obtain ⟨x, ho⟩ : ∃ x, og = some x := Option.isSome_iff_exists.1 hgb
        have hgx : x = gv := by rw [ho] at hgv; exact hgv
        cases has with
        | false =>
          have hne := HNEXT.out
          simp only [SV.opt, ho, Bool.false_eq_true, if_false, Option.isSome_some, if_true] at hne
          have HE := Lib.hid hne.symm
          have HNI := Lib.hid (show ¬ (match (SV.opt ⟨false, v, sl, so⟩) with
            | some v => og.any (fun was => decide (cmpV was v = 0)) = true
            | none => og = none) by simp [SV.opt, ho])
          clear hne
          go_wp2_with fail
          refine (HDEL.out _ HXB.out).mono ?_
          rintro e w8 ⟨T', rfl, hpr, hT', hx8⟩
          obtain ⟨p', hp'⟩ := rootV_ptr T'
          rw [treeV, hp']
          obtain ⟨-, q7, q8, q9, q10⟩ := HSS.out w8 (HX5.out.trans hx8)
          have HNX := Lib.hid (HMORE.out _ _ T' p' HXB.out hx8 hT' hp')
          have HPR := Lib.hid hpr
          clear hpr hT' hx8 hp'
          go_wp2_with fail
          obtain ⟨e1, e2, e3⟩ := HNX.out
          go_roundw
          case rel => exact ⟨j + 1, T', by go_num, hlt, HPR.out.ok HOK.out, e1, by rw [HPR.out.ents HOK.out]; exact HE.out, by rw [HPR.out.ents HOK.out]; have := HLT.out; have := (delE_sublist (entsT T1) k).length_le; omega, e2, e3, fun hi => absurd (HIDL.out hi) HNI.out⟩
          case measure => simp [intOf]; omega
        | true =>
          obtain ⟨sm, hsm⟩ : ∃ s, decide (cmpV gv v = 0) = s := ⟨_, rfl⟩
          have hsm1 := HSM.out
          rw [hsm] at hsm1
          have HSM1 := Lib.hid hsm1
          clear hsm1 HSM
          go_wp2_with fail
          refine HSM1.out.mono ?_
          rintro e w6 ⟨rfl, hx6⟩
          have HXC := Lib.hid (HXB.out.trans hx6)
          have HX6 := Lib.hid (HX5.out.trans hx6)
          obtain ⟨⟨q0, q1, q2, q3, q4, q5, q6⟩, q7, q8, q9, q10⟩ := HSS.out w6 (HX5.out.trans hx6)
          clear hx6 HSM1
          cases sm with
          | true =>
            have hne := HNEXT.out
            simp only [SV.opt, ho, if_true, Option.any_some, hgx, hsm] at hne
            have HE := Lib.hid hne.symm
            clear hne
            go_wp2_with fail
            obtain ⟨e1, e2, e3⟩ := HKEEP.out _ HXC.out
            go_roundw
            case rel => exact ⟨j + 1, T1, by go_num, hlt, HOK.out, e1, HE.out, by have := HLT.out; omega, e2, e3, HIDE.out⟩
            case measure => simp [intOf]; omega
          | false =>
            have hne := HNEXT.out
            simp only [SV.opt, ho, if_true, Option.any_some, hgx, hsm, Bool.false_eq_true, if_false] at hne
            have HE := Lib.hid hne.symm
            have HNI := Lib.hid (show ¬ (match (SV.opt ⟨true, v, sl, so⟩) with
              | some v => og.any (fun was => decide (cmpV was v = 0)) = true
              | none => og = none) by simp only [SV.opt, ho, if_true, Option.any_some, hgx, hsm]; simp)
            clear hne
            go_wp2_with fail
            refine (HPUT.out _ HXC.out).mono ?_
            rintro e w8 ⟨T', rfl, hpr, hT', hx8⟩
            obtain ⟨p', hp'⟩ := rootV_ptr T'
            rw [treeV, hp']
            obtain ⟨-, q7, q8, q9, q10⟩ := HSS.out w8 (HX6.out.trans hx8)
            have HNX := Lib.hid (HMORE.out _ _ T' p' HXC.out hx8 hT' hp')
            have HPR := Lib.hid hpr
            clear hpr hT' hx8 hp'
            go_wp2_with fail
            obtain ⟨e1, e2, e3⟩ := HNX.out
            go_roundw
            case rel => exact ⟨j + 1, T', by go_num, hlt, HPR.out.ok HOK.out, e1, by rw [HPR.out.ents HOK.out]; exact HE.out, by rw [HPR.out.ents HOK.out]; have := HLT.out; rcases insE_len (entsT T1) k v with h | h <;> omega, e2, e3, fun hi => absurd (HIDL.out hi) HNI.out⟩
            case measure => simp [intOf]; omega
    · obtain rfl : j = n := by omega
      have g1 : decide ((j : Int) < (j : Int)) = false := decide_eq_false (by omega)
      rw [hp1] at hbT
      have q0 : wr.cell? ⟨w.heap.size + 1, 0, none⟩ = some (.pointer p1) := hbT.cell 0
      have hbR := hsb.blk HB0'.out (by omega)
      have q1 : wr.cell? ⟨w.heap.size, 0, none⟩ = some (.pointer none) := hbR.cell 0
      have f0 := hbR.frozen 0
      have k0 := hbR.lt
      have k1 := hbT.lt
      have hfin : CommitPost H O d w (.returned (.agg #[.pointer p1])) (wr.setCell ⟨w.heap.size, 0, none⟩ (.pointer p1)) := by
        refine ⟨T1, by rw [treeV, hp1], ok, ?_, ?_, ?_, hid⟩
        · refine (hT.agree (Agree.setCell wr ⟨w.heap.size, 0, none⟩ _ ?_)).mono fun i hi => ?_
          · rintro ⟨hf | hf, -⟩
            · have := HF.out _ hf; dsimp only at this; omega
            · dsimp only at hf; omega
          · rw [Up, World.size_setCell]
            rcases hi.1 with h | h
            · exact .inl h
            · exact .inr ⟨by omega, hi.2⟩
        · rw [← hce, List.drop_eq_nil_of_le (by unfold optA; rw [List.length_map, HN.out]; exact Nat.le_refl _)]; rfl
        · have h1 : Sb (fun c => c = w.heap.size + 1 ∨ c = w.heap.size) w2 (wr.setCell ⟨w.heap.size, 0, none⟩ (.pointer p1)) := (hsb.mono fun i _ e => .inl e).set (p := ⟨w.heap.size, 0, none⟩) (.inr (.inr rfl)) _
          exact HN2.out.comp h1 fun i hi e => by omega
      have HFIN := Lib.hid hfin
      clear ok hT hce hlT hbT hsb hid hbR hfin hp1
      go_wp2_with fail
      refine bodyPost_ret (v := .agg #[.pointer p1]) (by simp [results, Tryz.results12, go_sem, q1]) rfl ?_
      exact HFIN.out
theorem commit_ov {H : Nat → Prop} {w : World} {O : Nat} {d : OD} (h : OvAt H w O d) (hl : (entsT d.T).length + d.C.length ≤ 1000000) : Calls Tryz.prog 12 #[.pointer (some ⟨O, 0, none⟩)] w (CommitPost H O d w) := by
  cases hm : d.mb with
  | some b => exact commit_some h hm hl
  | none =>
    have hC : d.C = [] := by have := h.map; rw [hm] at this; exact this
    exact (commit_none h hm).mono fun e w' ⟨he, hn⟩ => ⟨d.T, he, h.ok, (h.tree.agree (Nw.agree hn fun b hb => hb.1)).mono fun i hi => .inl hi, by rw [hC]; rfl, hn, fun _ => rfl⟩
def putC (k : ByteArray) (v : Val) : Int := if mayK k ≠ 0 then 8 else fitV v
theorem put_anyO {H : Nat → Prop} {w : World} {O : Nat} {d : OD} (h : OvAt H w O d) (hH : ∀ b, H b → b < w.heap.size) (hn : d.us.length ≤ 1000000) {k : ByteArray} (hk : k.size ≤ maxLen) {v : Val} {sl so : Sl} (hv : RV w (Lt w.heap.size) v sl so) (hc : cntV v ≤ 1100000) (hL : LibQ w) :
    Calls Tryz.prog 10 #[.pointer (some ⟨O, 0, none⟩), .string k, aggV v sl so] w fun e w' => e = .returned (.int .i64 (putC k v)) ∧ ((putC k v = 0 ∧ ∃ sl so mb s, OvTo H w O d (d.step k ⟨true, v, sl, so⟩ mb s) w') ∨ (putC k v ≠ 0 ∧ Nw w w')) := by
  have hmay := fun W (hW : Nw w W) => keysMay_any hk (hL.lib.nw hW)
  have hRV : ∀ W, Nw w W → RV W (Lt W.heap.size) v sl so := fun W hW => (hv.agree (Nw.agree hW fun b hb => hb)).mono fun b hb => Nat.lt_of_lt_of_le hb hW.size
  have hfit := fun W (hW : Nw w W) => fits_any (hRV W hW) hc (hL.nw hW)
  by_cases hm : mayK k = 0
  · rw [hm] at hmay
    have hp : putC k v = fitV v := by unfold putC; rw [if_neg (by simp [hm])]
    rw [hp]
    by_cases hf : fitV v = 0
    · rw [hf] at hfit
      exact (put_ov h hH hn hk hv hmay hfit).mono fun e w' h => by rw [hf]; exact ⟨h.1, .inl ⟨rfl, h.2⟩⟩
    · exact (put_ov_no hmay hfit hf).mono fun e w' h => ⟨h.1, .inr ⟨hf, h.2⟩⟩
  · have hp : putC k v = 8 := by unfold putC; rw [if_pos hm]
    rw [hp]
    exact (put_ov_key hmay hm).mono fun e w' h => ⟨h.1, .inr ⟨by decide, h.2⟩⟩
theorem OvAt.turn {H H' G : Nat → Prop} {w w' : World} {O : Nat} {d : OD} (h : OvAt H w O d) (k : Sb G w w') (hG : ∀ b, G b → H b) (hH : ∀ b, H' b → H b ∨ w.heap.size ≤ b) : OvAt H' w' O d := by
  have ha : Agree (OvF H w O d) w w' := fun b hb => k.block b hb.1 fun hh => hb.2.2 (hG b hh)
  have hm : ∀ i, OvF H w O d i → OvF H' w' O d i := fun i hi => ⟨Nat.lt_of_lt_of_le hi.1 k.size, hi.2.1, fun hh => (hH i hh).elim hi.2.2 fun h2 => by have := hi.1; omega⟩
  have hn : ∀ b, OvB O d b → ¬ G b := fun b hb hg => h.out b hb (hG b hg)
  obtain ⟨xs, r1, r2, r3⟩ := h.row
  exact ⟨k.blk h.blk (hn O (.inl rfl)), h.map.heap fun b hb => k.block b (h.map.lt hb) (hn b (.inr (.inl hb))),
    ⟨xs, r1, own_agree r2 k.agree fun b hb => ⟨h.row_lt hb, hn b (.inr (.inr hb))⟩, fun i u v hu hv => ((r3 i u v hu hv).agree ha).mono hm⟩,
    fun p hp => ⟨(h.vals p hp).1, ((h.vals p hp).2.agree ha).mono hm⟩, fun u hu => ⟨(h.olds u hu).1, fun o ho => (((h.olds u hu).2 o ho).agree ha).mono hm⟩,
    h.hist, h.h0, h.last, h.sorted, (h.tree.agree ha).mono hm, h.ok, h.ne, fun b hb hh => (hH b hh).elim (h.out b hb) fun h2 => by have := h.own_lt hb; omega, h.some_⟩
end Go.Proofs.YtechahocffcbpaaGreatDoor
namespace Go.Proofs.YtechahocffcbpaaGreatDoor
open Go.RowKit Go.Maps
set_option linter.unusedVariables false
set_option linter.unusedSimpArgs false
theorem undo1_any {w : World} {O b : Nat} {C : AL SV} {r sl : Value} {u : UD} {bw bd bo bk : Nat} {o : SV} (hblk : Blk w O 29 #[r, .map (some b), sl]) (hmap : OvMap w (some b) C) (hs : SortedA C) (hC : C.length < maxLen) (hk : u.k.size ≤ maxLen)
    (hbw : Blk w bw 4 #[.bool u.old.isSome]) (hbd : Blk w bd 85 o.cells) (ho : ∀ x, u.old = some x → x = o) (hbo : Blk w bo 43 #[.pointer (some ⟨O, 0, none⟩)]) (hbk : Blk w bk 9 #[.string u.k]) :
    Calls Tryz.prog 62 #[.pointer (some ⟨bw, 0, none⟩), .pointer (some ⟨bd, 0, none⟩), .pointer (some ⟨bo, 0, none⟩), .pointer (some ⟨bk, 0, none⟩)] w fun e w' => (∃ r, e = .returned r) ∧ OvMap w' (some b) (undo1 u C) ∧ Sb (fun c => c = b) w w' := by
  obtain ⟨k, old⟩ := u
  have cw : w.cell? ⟨bw, 0, none⟩ = some (.bool old.isSome) := hbw.cell 0
  have nO := OvMap.ne hmap hblk
  have no := OvMap.ne hmap hbo
  have nk := OvMap.ne hmap hbk
  have nd := OvMap.ne hmap hbd
  have HMAP := Lib.hid hmap
  cases old with
  | none =>
    have HSS := Lib.hid (show ∀ W, Sb (fun c => c = b) w W → W.cell? ⟨bo, 0, none⟩ = some (.pointer (some ⟨O, 0, none⟩)) ∧ W.cell? ⟨O, 1, none⟩ = some (.map (some b)) ∧ W.cell? ⟨bk, 0, none⟩ = some (.string k) from
      fun W hW => ⟨(hW.blk hbo no).cell 0, (hW.blk hblk nO).cell 1, (hW.blk hbk nk).cell 0⟩)
    clear hblk hbw hbd hbo hbk hmap ho nO no nk nd
    go_enter Tryz.func62, Tryz.ntmps62
    go_wp2_with fail
    refine wp_region_held_drew (S := (fun w' => Sb (fun c => c = b) w w')) (by kernel_rfl) (((Sb.refl _ w).drew)) (fun hHeld => ?_)
    refine heldT 0 (some 11) HSS hHeld ?_
    refine heldT 1 (some 12) HSS hHeld ?_
    refine heldT 2 (some 13) HSS hHeld ?_
    refine heldT 3 (some 14) HSS hHeld ?_
    refine heldT 4 (some 15) HSS hHeld ?_
    refine held_call (i := 5) (by kernel_rfl) rfl (by rfl) (fun K hK => ?_)
    skip
    (refine oper_delA (b := b) (C := C) (k := k) rfl rfl rfl (HMAP.out.heap fun _ _ => rfl) hk ?_; intro w7 hown7 hsb7)
    refine hK.out _ _ (hHeld.trans hsb7) (fun hHeld => ?_)
    clear hK K
    try simp only [Act.put, List.setIfInBounds_toArray, List.set_cons_zero, List.set_cons_succ]
    refine wpAnyH_done (by kernel_rfl) ?_ _
    go_end0
    exact ⟨⟨_, rfl⟩, hown7, hHeld⟩
  | some x =>
    obtain rfl := ho x rfl
    obtain ⟨has, v, sl', so⟩ := x
    have HSS := Lib.hid (show ∀ W, Sb (fun c => c = b) w W → W.cell? ⟨bo, 0, none⟩ = some (.pointer (some ⟨O, 0, none⟩)) ∧ W.cell? ⟨O, 1, none⟩ = some (.map (some b)) ∧ W.cell? ⟨bk, 0, none⟩ = some (.string k) ∧ W.cell? ⟨bd, 0, none⟩ = some (.bool has) ∧ W.cell? ⟨bd, 1, none⟩ = some (.int .i64 v.kind) ∧ W.cell? ⟨bd, 2, none⟩ = some (.bool v.b) ∧ W.cell? ⟨bd, 3, none⟩ = some (.int .i64 v.i) ∧ W.cell? ⟨bd, 4, none⟩ = some (.string v.t) ∧ W.cell? ⟨bd, 5, none⟩ = some (.slice sl'.a v.l.length sl'.c) ∧ W.cell? ⟨bd, 6, none⟩ = some (.slice so.a v.ok.length so.c) from
      fun W hW => ⟨(hW.blk hbo no).cell 0, (hW.blk hblk nO).cell 1, (hW.blk hbk nk).cell 0, (hW.blk hbd nd).cell 0, (hW.blk hbd nd).cell 1, (hW.blk hbd nd).cell 2, (hW.blk hbd nd).cell 3, (hW.blk hbd nd).cell 4, (hW.blk hbd nd).cell 5, (hW.blk hbd nd).cell 6⟩)
    clear hblk hbw hbd hbo hbk hmap ho nO no nk nd
    go_enter Tryz.func62, Tryz.ntmps62
    go_wp2_with fail
    refine wp_region_held_drew (S := (fun w' => Sb (fun c => c = b) w w')) (by kernel_rfl) (((Sb.refl _ w).drew)) (fun hHeld => ?_)
    refine heldT 0 (some 5) HSS hHeld ?_
    refine heldT 1 (some 6) HSS hHeld ?_
    refine heldT 2 (some 7) HSS hHeld ?_
    refine heldT 3 (some 8) HSS hHeld ?_
    refine heldT 4 (some 9) HSS hHeld ?_
    refine heldT 5 (some 10) HSS hHeld ?_
    refine held_call (i := 6) (by kernel_rfl) rfl (by rfl) (fun K hK => ?_)
    skip
    (refine oper_putA (b := b) (C := C) (k := k) (s := ⟨has, v, sl', so⟩) rfl rfl rfl rfl (HMAP.out.heap fun _ _ => rfl) hk hC hs ?_; intro w7 hown7 hsb7)
    refine hK.out _ _ (hHeld.trans hsb7) (fun hHeld => ?_)
    clear hK K
    try simp only [Act.put, List.setIfInBounds_toArray, List.set_cons_zero, List.set_cons_succ]
    refine wpAnyH_done (by kernel_rfl) ?_ _
    go_end0
    exact ⟨⟨_, rfl⟩, hown7, hHeld⟩
theorem own_cut {w : World} {base e n c : Nat} {a : Option Addr} {xs : List Value} (h : w.ownsRow base e 1 (.slice a n c) n xs) {m : Nat} (hm : m ≤ n) : w.ownsRow base e 1 (.slice a m c) m (xs.take m) := by
  have hl := h.1
  rcases h.2 with ⟨hv, h0⟩ | ⟨g, cap, cur, hv, hbg, hg, hnc, hcm, hcs, ht⟩
  · obtain rfl : m = 0 := by omega
    subst h0
    exact ⟨by simp, .inl ⟨hv, rfl⟩⟩
  · injection hv with h1 h2 h3
    subst h1 h3
    refine ⟨by rw [List.length_take]; omega, .inr ⟨g, c, cur, rfl, hbg, hg, by omega, hcm, hcs, ?_⟩⟩
    rw [← ht, List.take_take]
    congr 1
    omega
section
variable {H : Nat → Prop} {w : World} {O : Nat} {d : OD}
structure BackMid (w : World) (O : Nat) (d : OD) (xs : List Value) (j : Nat) (W : World) : Prop where
  blk : Blk W O 29 #[rootV d.T, .map d.mb, .slice d.s.a d.us.length d.s.c]
  map : OvMap W d.mb (backA d.us d.C j)
  row : ∃ ys, W.ownsRow 0 1 1 (.slice d.s.a d.us.length d.s.c) d.us.length ys ∧ ∀ i, i < j → ys[i]? = xs[i]?
  sb : Sb (OvB O d) w W
def BackPost (H : Nat → Prop) (O : Nat) (d : OD) (m : Nat) (w : World) (e : Ending) (w' : World) : Prop :=
  e = .returned (.int .i64 0) ∧ OvTo H w O d ⟨d.T, d.mb, d.s, d.us.take m, d.Hs.take (m + 1), backA d.us d.C m⟩ w'
theorem back_end {m : Nat} (hm : m ≤ d.us.length) (h : OvAt H w O d) {xs : List Value} (hl : xs.length = d.us.length) (hun : ∀ (i : Nat) (u : UD) (v : Value), d.us[i]? = some u → xs[i]? = some v → UndoV w (OvF H w O d) O u v) {W : World} (hW : BackMid w O d xs m W) :
    OvTo H w O d ⟨d.T, d.mb, d.s, d.us.take m, d.Hs.take (m + 1), backA d.us d.C m⟩ (W.setCell ⟨O, 2, none⟩ (.slice d.s.a m d.s.c)) := by
  have hset : Sb (OvB O d) W (W.setCell ⟨O, 2, none⟩ (.slice d.s.a m d.s.c)) := (Sb.refl (OvB O d) W).set (p := ⟨O, 2, none⟩) (.inr (.inl rfl)) _
  have hall := hW.sb.trans hset
  have hset1 : Sb (fun c => c = O) W (W.setCell ⟨O, 2, none⟩ (.slice d.s.a m d.s.c)) := (Sb.refl (fun c => c = O) W).set (p := ⟨O, 2, none⟩) (.inr rfl) _
  have ha : Agree (OvF H w O d) w (W.setCell ⟨O, 2, none⟩ (.slice d.s.a m d.s.c)) := fun i hi => hall.block i hi.1 hi.2.1
  have hmm : ∀ i, OvF H w O d i → OvF H (W.setCell ⟨O, 2, none⟩ (.slice d.s.a m d.s.c)) O ⟨d.T, d.mb, d.s, d.us.take m, d.Hs.take (m + 1), backA d.us d.C m⟩ i := fun i hi => ⟨Nat.lt_of_lt_of_le hi.1 hall.size, hi.2.1, hi.2.2⟩
  obtain ⟨ys, hys, hyx⟩ := hW.row
  have htl : (d.us.take m).length = m := by rw [List.length_take]; omega
  have hC : d.Hs[m]? = some (backA d.us d.C m) := h.hist.back h.last (d.us.length - m) m (by omega)
  have hch := h.hist.take hm
  have hbO : ∀ b, d.mb = some b → b ≠ O := fun b hb e => h.ne.1 (by rw [hb, e])
  have hrec : ∀ (A : List UD) (C : AL SV), (∀ p ∈ C, p.1.size ≤ maxLen ∧ SVok w (OvF H w O d) p.2) → (∀ u ∈ A, u.k.size ≤ maxLen ∧ ∀ o, u.old = some o → SVok w (OvF H w O d) o) → ∀ p ∈ A.foldr undo1 C, p.1.size ≤ maxLen ∧ SVok w (OvF H w O d) p.2 := by
    intro A C hC0
    induction A with
    | nil => intro _; exact hC0
    | cons u r ih =>
      intro hA p hp
      have ih' := ih fun x hx => hA x (List.mem_cons_of_mem _ hx)
      have hu := hA u (List.mem_cons_self ..)
      rw [List.foldr_cons, undo1] at hp
      cases ho : u.old with
      | none => rw [ho] at hp; exact ih' p (List.mem_filter.1 hp).1
      | some o =>
        rw [ho] at hp
        rcases mem_putA hp with rfl | hp
        · exact ⟨hu.1, hu.2 o ho⟩
        · exact ih' p hp
  refine ⟨⟨?_, ?_, ⟨ys.take m, ?_, ?_, ?_⟩, ?_, ?_, hch, ?_, ?_, backA_sorted h.sorted _ _, (h.tree.agree ha).mono hmm, h.ok, h.ne, h.out, ?_⟩, hall, fun b hb => .inl hb⟩
  · have := hW.blk.set_ 2 (.slice d.s.a m d.s.c)
    show Blk _ O _ #[_, _, .slice d.s.a (d.us.take m).length d.s.c]
    rw [htl]; exact this
  · exact hW.map.heap fun b hb => hset1.block b (hW.map.lt hb) (hbO b hb)
  · show (ys.take m).length = (d.us.take m).length
    have := hys.1
    rw [htl, List.length_take]; omega
  · show World.ownsRow _ 0 _ 1 (.slice d.s.a (d.us.take m).length d.s.c) (d.us.take m).length _
    rw [htl]
    exact own_agree (own_cut hys hm) hset1.agree fun b hb => ⟨(own_row hys hb).2, fun e => h.ne.2.1 (by rw [← e]; exact hb)⟩
  · intro i u v hu hv
    have hu : (d.us.take m)[i]? = some u := hu
    have hi : i < m := by have := (List.getElem?_eq_some_iff.1 hu).1; omega
    rw [List.getElem?_take_of_lt hi] at hu hv
    rw [hyx i hi] at hv
    exact ((hun i u v hu hv).agree ha).mono hmm
  · intro p hp
    have := hrec (d.us.drop m) d.C h.vals (fun u hu => h.olds u (List.mem_of_mem_drop hu)) p hp
    exact ⟨this.1, (this.2.agree ha).mono hmm⟩
  · intro u hu
    have := h.olds u (List.mem_of_mem_take hu)
    exact ⟨this.1, fun o ho => ((this.2 o ho).agree ha).mono hmm⟩
  · show (d.Hs.take (m + 1))[0]? = _
    rw [List.getElem?_take_of_lt (by omega)]; exact h.h0
  · show (d.Hs.take (m + 1))[(d.us.take m).length]? = _
    rw [htl, List.getElem?_take_of_lt (by omega)]; exact hC
  · intro hne
    exact h.some_ fun e => hne (by show d.us.take m = []; rw [e]; exact List.take_nil)
theorem back_step {xs : List Value} {j g b : Nat} (h : OvAt H w O d) (hb : d.mb = some b) (hg : d.s.a = some ⟨g, 0, none⟩) {u : UD} (hu : d.us[j]? = some u) {W W1 : World} (hW : BackMid w O d xs (j + 1) W) (hm : OvMap W1 (some b) (undo1 u (backA d.us d.C (j + 1)))) (hs : Sb (fun c => c = b) W W1) :
    BackMid w O d xs j (W1.setCell ⟨g, j, none⟩ Value.nilFunc) := by
  have hj : j < d.us.length := (List.getElem?_eq_some_iff.1 hu).1
  have hrow : d.s.row = some g := by rw [Sl.row, hg]; rfl
  have hgb : g ≠ b := fun e => h.ne.2.2 b hb (by rw [hrow, e])
  have hgO : g ≠ O := fun e => h.ne.2.1 (by rw [hrow, e])
  have hbO : b ≠ O := fun e => h.ne.1 (by rw [hb, e])
  obtain ⟨ys, hys, hyx⟩ := hW.row
  have hown1 : W1.ownsRow 0 1 1 (.slice d.s.a d.us.length d.s.c) d.us.length ys := own_agree hys hs.agree fun i hi => ⟨(own_row hys hi).2, fun e => hgb (by rw [hrow] at hi; injection hi with hi; omega)⟩
  have hset : Sb (fun c => c = g) W1 (W1.setCell ⟨g, j, none⟩ Value.nilFunc) := (Sb.refl (fun c => c = g) W1).set (p := ⟨g, j, none⟩) (.inr rfl) _
  refine ⟨hset.blk (hs.blk hW.blk fun e => hbO e.symm) fun e => hgO e.symm, ?_, ⟨ys.set j Value.nilFunc, ?_, fun i hi => ?_⟩, ?_⟩
  · rw [hb, backA_step hu]
    exact hm.heap fun i hi => by
      injection hi with hi
      subst hi
      exact hset.block b (hm.lt rfl) fun e => hgb e.symm
  · rw [hg] at hown1 ⊢
    exact own_set hown1 hj _
  · rw [List.getElem?_set_ne (by omega)]
    exact hyx i (by omega)
  · exact (hW.sb.trans (hs.mono fun i _ e => .inr (.inl (by rw [hb, e])))).trans (hset.mono fun i _ e => .inr (.inr (by rw [hrow, e])))
end
theorem run_store_nilF (P : Program) (w : World) (a : Addr) (m : Mode) : (store a Value.nilFunc m).run P w = stored P w a Value.nilFunc m := run_store P w a _ m rfl
attribute [local go_sem] run_store_nilF
theorem own_cell {w : World} {base e n c g : Nat} {xs : List Value} (h : w.ownsRow base e 1 (.slice (some ⟨g, 0, none⟩) n c) n xs) {i : Nat} {u : Value} (hx : xs[i]? = some u) : w.cell? ⟨g, i, none⟩ = some u ∧ (n ≤ c ∧ c ≤ maxLen) ∧ g < w.heap.size ∧ w.frozen? ⟨g, i, none⟩ = false := by
  rcases h.2 with ⟨hv, h0⟩ | ⟨g', cap, cur, hv, hbg, hg, hnc, hcm, hcs, ht⟩
  · cases hv
  · injection hv with h1 h2 h3
    injection h1 with h1
    injection h1 with h1
    subst h1 h3
    have hi : i < n := by have := (List.getElem?_eq_some_iff.1 hx).1; have := h.1; omega
    have hb : Blk w g e cur := hg
    refine ⟨?_, ⟨hnc, hcm⟩, hb.lt, hb.frozen i⟩
    rw [hb.cell i]
    rw [← ht, List.getElem?_take_of_lt (by omega)] at hx
    simpa using hx
theorem back_ov {H : Nat → Prop} {w : World} {O : Nat} {d : OD} (h : OvAt H w O d) (hn : d.us.length ≤ 1000000) {m : Nat} (hm : m ≤ d.us.length) : Calls Tryz.prog 20 #[.pointer (some ⟨O, 0, none⟩), .int .i64 (m : Int)] w (BackPost H O d m w) := by
  have c2 : w.cell? ⟨O, 2, none⟩ = some (.slice d.s.a d.us.length d.s.c) := h.blk.cell 2
  have lO := h.blk.lt
  obtain ⟨xs, hl, hown, hun⟩ := h.row
  have g0 : decide ((m : Int) < 0) = false := decide_eq_false (by omega)
  have g1 : decide ((d.us.length : Int) < (m : Int)) = false := decide_eq_false (by omega)
  have g1' : decide (d.us.length < m) = false := decide_eq_false (by omega)
  have hst : BackMid w O d xs d.us.length w := ⟨h.blk, by rw [backA_end]; exact h.map, ⟨xs, hown, fun _ _ => rfl⟩, Sb.refl _ _⟩
  have HAT := Lib.hid h
  have HUN := Lib.hid hun
  have HL := Lib.hid hl
  have HST := Lib.hid hst
  clear h hun hl hst hown
  go_enter Tryz.func20, Tryz.ntmps20
  go_wp2_with fail
  go_loopw [5] (fun q wr => ∃ (j : Nat) (i : Int), q = .int .i64 i ∧ i + 1 = (j : Int) ∧ m ≤ j ∧ j ≤ d.us.length ∧ BackMid w O d xs j wr) (fun q _ => (intOf q + 1).toNat)
  case atStart => exact ⟨d.us.length, _, rfl, by omega, hm, Nat.le_refl _, HST.out⟩
  case round =>
    obtain ⟨j, i, rfl, hij, hmj, hjl, hW⟩ := hrel
    by_cases hlt : m < j
    · obtain ⟨j, rfl⟩ : ∃ k, j = k + 1 := ⟨j - 1, by omega⟩
      obtain rfl : i = (j : Int) := by omega
      have g2 : decide ((m : Int) ≤ (j : Int)) = true := decide_eq_true (by omega)
      have hu : d.us[j]? = some d.us[j] := List.getElem?_eq_getElem (by omega)
      obtain ⟨u, hue⟩ : ∃ u, d.us[j] = u := ⟨_, rfl⟩
      rw [hue] at hu
      obtain ⟨v, hv⟩ : ∃ v, xs[j]? = some v := ⟨_, List.getElem?_eq_getElem (by have := HL.out; omega)⟩
      obtain ⟨b, hb⟩ := HAT.out.some_ (fun e => by rw [e] at hu; simp at hu)
      obtain ⟨bw, bd, bo, bk, o, rfl, ⟨fw, fd, fo, fk⟩, kw, kd, ho, ko, kk⟩ := HUN.out j u v hu hv
      obtain ⟨ys, hys, hyx⟩ := hW.row
      have hyv : ys[j]? = some (undoC bw bd bo bk) := by rw [hyx j (by omega)]; exact hv
      obtain ⟨g, ha⟩ : ∃ g, d.s.a = some ⟨g, 0, none⟩ := by
        rcases hys.2 with ⟨-, h0⟩ | ⟨g, cap, cur, hv, -⟩
        · omega
        · injection hv with h1
          exact ⟨g, h1⟩
      rw [ha] at hys
      obtain ⟨cj, ⟨hnc, hcm⟩, lg, fj⟩ := own_cell hys hyv
      have b2 : wr.cell? ⟨O, 2, none⟩ = some (.slice d.s.a d.us.length d.s.c) := hW.blk.cell 2
      rw [ha] at b2
      have lW := hW.blk.lt
      have hblk : Blk wr O 29 #[rootV d.T, .map (some b), .slice d.s.a d.us.length d.s.c] := by rw [← hb]; exact hW.blk
      have hmap : OvMap wr (some b) (backA d.us d.C (j + 1)) := by rw [← hb]; exact hW.map
      have hun1 := undo1_any hblk hmap (backA_sorted HAT.out.sorted d.us (j + 1)) (by have := HAT.out.hist.short HAT.out.h0 _ _ (HAT.out.hist.back HAT.out.last (d.us.length - (j + 1)) (j + 1) (by omega)); unfold maxLen; omega) (HAT.out.olds u (List.mem_of_getElem? hu)).1 (hW.sb.blk kw fw.2.1) (hW.sb.blk kd fd.2.1) ho (hW.sb.blk ko fo.2.1) (hW.sb.blk kk fk.2.1)
      have hrg : d.s.row = some g := by rw [Sl.row, ha]; rfl
      have hgb : ¬ g = b := fun e => HAT.out.ne.2.2 b hb (by rw [hrg, e])
      have hOb : ¬ O = b := fun e => HAT.out.ne.1 (by rw [hb, e])
      have HW := Lib.hid hW
      have HU := Lib.hid hu
      have HB := Lib.hid hb
      have HA := Lib.hid ha
      have HUN1 := Lib.hid hun1
      have j0 : (0 : Int) ≤ (j : Int) := by omega
      have j1 : (j : Int) < (d.us.length : Int) := by omega
      have fj2 : ∀ W, Sb (fun c => c = b) wr W → W.frozen? ⟨g, j, none⟩ = false ∧ W.cell? ⟨g, j, none⟩ = some (undoC bw bd bo bk) ∧ W.cell? ⟨O, 2, none⟩ = some (.slice (some ⟨g, 0, none⟩) d.us.length d.s.c) ∧ g < W.heap.size := fun W hS =>
        ⟨(World.frozen?_of_block (hS.block g lg hgb)).trans fj, (hS.cell lg hgb).trans cj, (hS.cell lW hOb).trans b2, Nat.lt_of_lt_of_le lg hS.size⟩
      have FJ := Lib.hid fj2
      clear hW hij c2 hu hue hv hb fw fd fo fk kw kd ho ko kk hys hyx hyv ha hblk hmap hun1 hrg hgb hOb fj2 HST
      go_wp2_with (go_at_call 62; refine (HUN1.out).mono ?_; rintro e w1 ⟨⟨r, rfl⟩, hm1, hs1⟩; obtain ⟨f1, c1, b3, l1⟩ := FJ.out w1 hs1; have HM1 := Lib.hid hm1; have HS1 := Lib.hid hs1; clear hm1 hs1 FJ)
      go_roundw
      case rel => exact ⟨j, (j : Int) - 1, by go_num, by omega, by omega, by omega, back_step HAT.out HB.out HA.out HU.out HW.out HM1.out HS1.out⟩
      case measure => simp [intOf]
    · obtain rfl : j = m := by omega
      have g2 : decide ((j : Int) ≤ i) = false := decide_eq_false (by omega)
      have b2 : wr.cell? ⟨O, 2, none⟩ = some (.slice d.s.a d.us.length d.s.c) := hW.blk.cell 2
      have f2 := hW.blk.frozen 2
      have lW := hW.blk.lt
      have HW := Lib.hid hW
      clear hW hij c2
      have hca : (d.s.a = none ∧ d.us.length = 0 ∧ d.s.c = 0) ∨ ∃ g, d.s.a = some ⟨g, 0, none⟩ ∧ d.us.length ≤ d.s.c ∧ d.s.c ≤ maxLen := by
        obtain ⟨ys, hys, -⟩ := HW.out.row
        rcases hys.2 with ⟨hv, h0⟩ | ⟨g, cap, cur, hv, -, -, hnc, hcm, -⟩
        · injection hv with h1 h2 h3
          exact .inl ⟨h1, h0, h3⟩
        · injection hv with h1 h2 h3
          exact .inr ⟨g, h1, by rw [h3]; exact hnc, by rw [h3]; exact hcm⟩
      rcases hca with ⟨ha, hz, hc⟩ | ⟨g, ha, hnc, hcm⟩
      · obtain rfl : j = 0 := by omega
        have HA := Lib.hid ha
        have HC := Lib.hid hc
        have HZ := Lib.hid hz
        rw [ha, hz, hc] at b2
        clear ha hc hz
        have g3 : decide ((0 : Int) ≤ i) = false := g2
        go_wp2_with fail
        refine bodyPost_ret (v := .int .i64 0) (by simp [results, Tryz.results20, go_sem]) rfl ?_
        have hend := back_end hm HAT.out HL.out HUN.out HW.out
        rw [HA.out, HC.out] at hend
        exact ⟨rfl, hend⟩
      · rw [ha] at b2
        have HA := Lib.hid ha
        clear ha
        have k0 : (0 : Int) ≤ (j : Int) := by omega
        have k1 : (j : Int) ≤ (d.s.c : Int) := by omega
        go_wp2_with fail
        refine bodyPost_ret (v := .int .i64 0) (by simp [results, Tryz.results20, go_sem]) rfl ?_
        have hend := back_end hm HAT.out HL.out HUN.out HW.out
        rw [HA.out] at hend
        exact ⟨rfl, hend⟩
end Go.Proofs.YtechahocffcbpaaGreatDoor
namespace Go.Proofs.YtechahocffcbpaaGreatDoor
open Go.RowKit Go.Maps Go.Shelf
set_option linter.unusedVariables false
set_option linter.unusedSimpArgs false
theorem num12_any (w : World) (n : Int) : Calls Tryz.prog 9 #[.int .i64 n] w fun e w' => e = .returned (numA n) ∧ Ext w w' := by
  go_enter Tryz.func9, Tryz.ntmps9
  go_wp2_with fail
  refine bodyPost_ret (v := numA n) (by simp [results, Tryz.results9, go_sem]; rfl) rfl ?_
  exact ⟨rfl, (Ext.refl w).alloc _ _⟩
theorem same12_refl {w : World} {F F' : Nat → Prop} {s s' : Sl} {xs : List ByteArray} (h : Rd w F 1 s xs.length (xs.map .string)) (hF : ∀ b, F b → b < w.heap.size) (h' : Rd w F' 1 s' xs.length (xs.map .string)) (hF' : ∀ b, F' b → b < w.heap.size) (hn : xs.length ≤ 1000000000) :
    Calls Tryz.prog 28 #[.slice s.a xs.length s.c, .slice s'.a xs.length s'.c] w fun e w' => e = .returned (.bool true) ∧ Ext w w' := by
  obtain ⟨b, o, h1, -, h3⟩ := h
  obtain ⟨b', o', h1', -, h3'⟩ := h'
  have H1 := Lib.hid h1
  have H1' := Lib.hid h1'
  have H3 := Lib.hid h3
  have H3' := Lib.hid h3'
  have HF := Lib.hid hF
  have HF' := Lib.hid hF'
  have hne : (((xs.length : Int)) != ((xs.length : Int))) = false := by simp
  clear h1 h1' h3 h3' hF hF'
  go_enter Tryz.func28, Tryz.ntmps28
  go_wp2_with fail
  go_loopw [5] (fun q wr => ∃ j : Nat, q = .int .i64 j ∧ j ≤ xs.length ∧ Ext w wr) (fun q _ => xs.length - (intOf q).toNat)
  case atStart => exact ⟨0, rfl, Nat.zero_le _, Ext.refl w⟩
  case round =>
    obtain ⟨j, rfl, hjl, hx⟩ := hrel
    by_cases hlt : j < xs.length
    · have g1 : (j : Int) < (xs.length : Int) := by omega
      obtain ⟨x, hxx⟩ : ∃ x, xs[j]? = some x := ⟨_, List.getElem?_eq_getElem hlt⟩
      obtain ⟨e1, hc, hcm⟩ := H1.out.eq (by omega)
      obtain ⟨e1', hc', hcm'⟩ := H1'.out.eq (by omega)
      have lg := HF.out b (H1.out.fits (by omega))
      have lg' := HF'.out b' (H1'.out.fits (by omega))
      obtain ⟨sa, sc⟩ := s
      obtain ⟨sa', sc'⟩ := s'
      dsimp only at e1 e1' hc hc' hcm hcm'
      subst e1 e1'
      have c0 : wr.cell? ⟨b, o + j, none⟩ = some (.string x) := (hx.cell lg).trans (H3.out j _ (by rw [List.getElem?_map, hxx]; rfl))
      have c0' : wr.cell? ⟨b', o' + j, none⟩ = some (.string x) := (hx.cell lg').trans (H3'.out j _ (by rw [List.getElem?_map, hxx]; rfl))
      have hxe : (x.toList != x.toList) = false := by simp
      have HX := Lib.hid hx
      clear hx hxx lg lg'
      go_wp2_with fail
      go_quiet (fail)
      go_wp2_with fail
      go_roundw
      case rel => exact ⟨j + 1, by go_num, hlt, HX.out.drewN _⟩
      case measure => simp [intOf]; omega
    · obtain rfl : j = xs.length := by omega
      have HX := Lib.hid hx
      clear hx
      go_wp2_with fail
      go_ret
      exact ⟨rfl, HX.out⟩
theorem rv_numO (w : World) (F : Nat → Prop) {n : Int} (wn : (Lit.int .i64 n).wf = true) : RV w F (numV n) Sl.none Sl.none := RV.flat _ _ _ _ _ _ (by decide) wn (by decide)
theorem tree_oneO {w : World} {g : Nat} {a : ByteArray} {n : Int} (ha : a.size ≤ maxLen) (wn : (Lit.int .i64 n).wf = true)
    (hb : Blk w g 64 #[.string a, .int .i64 3, .bool false, .int .i64 n, .string ByteArray.empty, .slice none 0 0, .slice none 0 0]) :
    Calls Tryz.prog 24 #[.slice (some ⟨g, 0, none⟩) 1 1] w fun e w' => ∃ (T : RT), e = .returned (treeV T) ∧ OkR T ∧ entsT T = [(a, numV n)] ∧ IsT w' (In w.heap.size w'.heap.size) T ∧ Ext w w' := by
  have es : ES w (Lt w.heap.size) ⟨some ⟨g, 0, none⟩, 1⟩ [⟨a, numV n, Sl.none, Sl.none⟩] :=
    ⟨(Rd.block (cs := flatE [⟨a, numV n, Sl.none, Sl.none⟩]) (n := 1) (size := 7) (by simp [flatE, LE.cells]; exact hb) (by decide) (by simp [flatE, LE.cells])).mono fun i hi => by subst hi; exact hb.lt, fun z hz => by
      obtain rfl := List.mem_singleton.1 hz; exact ⟨rv_numO _ _ wn, ha⟩, by simp⟩
  refine (build_any es (show 1 ≤ 100000 by omega)).mono ?_
  rintro e w' ⟨T, rfl, hbt, hT, hx⟩
  exact ⟨T, rfl, hbt.both.1, by rw [hbt.both.2]; show putAll [] [(a, numV n)] = _; simp [putAll, insE], hT, hx⟩
theorem OvTo.since {H : Nat → Prop} {w0 w w' : World} {O : Nat} {d d' : OD} (h : OvTo H w O d d' w') (k : Nw w0 w) (hb : ∀ b, OvB O d b → w0.heap.size ≤ b) : Nw w0 w' ∧ ∀ b, OvB O d' b → w0.heap.size ≤ b :=
  ⟨k.comp h.sb fun i hi e => by have := hb i e; omega, fun b e => (h.new b e).elim (hb b) fun hh => Nat.le_trans k.size hh⟩
abbrev kAo : ByteArray := ⟨#[97]⟩
abbrev kBo : ByteArray := ⟨#[98]⟩
abbrev kEo : ByteArray := ⟨#[]⟩
theorem begins_all (k : ByteArray) : beginsO kEo k = true := by
  have h : (ByteArray.mk #[]).toList = [] := by rw [ByteArray.toList_eq]
  show (ByteArray.toList _).isPrefixOf _ = true
  rw [h]; rfl
theorem may_bo : mayK kBo = 0 := by decide +kernel
theorem now_b {d : OD} {s : SV} (hT : entsT d.T = [(kAo, numV 1)]) (hC : d.C = putA [] kBo s) : d.now kAo = some (numV 1) := by
  rw [now_none (by rw [hC, getA_put, if_neg (by decide)]; rfl), hT]
  simp [getE]
theorem pre_b {d : OD} {s z : SV} (hT : entsT d.T = [(kAo, numV 1)]) (hC : d.C = putA (putA [] kBo s) kAo z) (hs : s.has = true) (hz : z.has = false) {ks : List ByteArray} (hr : ks.Pairwise fun x y => klt x y = true)
    (hm : ∀ k, k ∈ ks ↔ (beginsO kEo k = true ∧ (d.now k).isSome = true)) : ks = [kBo] := by
  refine rise_ext hr (List.pairwise_singleton _ _) fun k => ?_
  rw [hm k, begins_all]
  have hg : getA d.C k = if k = kAo then some z else if k = kBo then some s else none := by rw [hC, getA_put, getA_put]; rfl
  by_cases h1 : k = kAo
  · subst h1
    rw [if_pos rfl] at hg
    rw [now_some hg]
    simp [SV.opt, hz]
  · rw [if_neg h1] at hg
    by_cases h2 : k = kBo
    · subst h2
      rw [if_pos rfl] at hg
      rw [now_some hg]
      simp [SV.opt, hs]
    · rw [if_neg h2] at hg
      rw [now_none hg, hT]
      simp [getE, h1, h2]
      exact fun h => h1 h.symm
theorem pre_a {d : OD} (hT : entsT d.T = [(kAo, numV 1)]) (hC : d.C = []) {ks : List ByteArray} (hr : ks.Pairwise fun x y => klt x y = true)
    (hm : ∀ k, k ∈ ks ↔ (beginsO kEo k = true ∧ (d.now k).isSome = true)) : ks = [kAo] := by
  refine rise_ext hr (List.pairwise_singleton _ _) fun k => ?_
  rw [hm k, begins_all, now_none (by rw [hC]; rfl), hT]
  by_cases h1 : k = kAo
  · subst h1; simp [getE]
  · simp [getE, h1]
    exact fun h => h1 h.symm
theorem rd_one (w : World) (k : ByteArray) : Rd (w.alloc (.cells #[.string k] 9)) (fun b => b = w.heap.size) 1 ⟨some ⟨w.heap.size, 0, none⟩, 1⟩ 1 [.string k] :=
  Rd.block (cs := [.string k]) (n := 1) (size := 1) (Blk.new w _ _) (by decide) rfl
theorem put_bo {w : World} {O : Nat} {T : RT} (hL : Lib0 w) (h0 : OvAt (fun _ => False) w O (od0 T)) : Calls Tryz.prog 10 #[.pointer (some ⟨O, 0, none⟩), .string kBo, numA 2] w (PutPostO (fun _ => False) O (od0 T) kBo (numV 2) w) := by
  have hmay : ∀ W, Nw w W → Calls Tryz.prog 33 #[.string kBo] W fun e w' => e = .returned (.int .i64 0) ∧ Nw W w' := fun W hW => by
    have h := keysMay_any (w := W) (k := kBo) (by decide) (hL.nw hW)
    rw [may_bo] at h
    exact h
  have hfit : ∀ W, Nw w W → Calls Tryz.prog 34 #[numA 2] W fun e w' => e = .returned (.int .i64 0) ∧ Nw W w' := fun W hW =>
    fits_int W 2 fun W' hW' => (hL.nw (hW.trans hW')).fmt _ (G5.refl _) 2 (by decide) (by decide)
  have hl : (od0 T).us.length ≤ 1000000 := Nat.zero_le _
  have hk : kBo.size ≤ maxLen := by decide
  have hv : RV w (Lt w.heap.size) (numV 2) Sl.none Sl.none := rv_numO _ _ (by decide)
  exact put_ov (v := numV 2) (sl := Sl.none) (so := Sl.none) h0 (fun b h => h.elim) hl hk hv hmay hfit
theorem known12 {w : World} (hL : Lib0 w) : Calls Tryz.prog 14 #[] w fun e w' => e = .returned (.bool true) ∧ Nw w w' := by
  have HL := Lib.hid hL
  clear hL
  go_enter Tryz.func14, Tryz.ntmps14
  go_wp2_with fail
  refine (num12_any _ 1).mono ?_
  rintro e w1 ⟨rfl, hx1⟩
  have HX1 := Lib.hid hx1
  clear hx1
  go_wp2_with fail
  refine (tree_oneO (a := kAo) (n := 1) (by decide) (by decide) (Blk.new w1 _ _)).mono ?_
  rintro e w2 ⟨T, rfl, ok, he, hT, hx2⟩
  have hx02 := HX1.out.trans (((Ext.refl w1).alloc _ _).trans hx2)
  have hbg := begin_ov (H := fun _ => False) hT ok (fun b hb => ⟨hb.2, id⟩) (fun b h => h.elim)
  obtain ⟨p, hp⟩ := rootV_ptr T
  rw [treeV, hp] at hbg
  rw [treeV, hp]
  have HX2 := Lib.hid hx02
  have HBG := Lib.hid hbg
  have HE := Lib.hid he
  clear hx02 hbg he ok hT hx2 HX1 hp
  go_wp2_with fail
  refine HBG.out.mono ?_
  rintro e w3 ⟨O, rfl, hO, h0, hx3⟩
  have hn3 : Nw w w3 := Nw.of (HX2.out.trans hx3)
  have ho3 : ∀ b, OvB O (od0 T) b → w.heap.size ≤ b := fun b hb => by
    have := HX2.out.size
    rcases hb with rfl | hb | hb
    · omega
    · cases hb
    · cases hb
  have hmk : Calls Tryz.prog 18 #[.pointer (some ⟨O, 0, none⟩)] w3 fun e w' => e = .returned (.int .i64 0) ∧ Ext w3 w' := mark_ov h0
  have HN3 := Lib.hid hn3
  have HO3 := Lib.hid ho3
  have HMK := Lib.hid hmk
  have H0 := Lib.hid h0
  clear hx3 h0 hn3 ho3 hmk HBG hO HX2
  go_wp2_with fail
  refine HMK.out.mono ?_
  rintro e w4 ⟨rfl, hx4⟩
  have HX4 := Lib.hid hx4
  clear hx4 HMK
  go_wp2_with fail
  refine (num12_any _ 2).mono ?_
  rintro e w5 ⟨rfl, hx5⟩
  have hx35 := HX4.out.trans hx5
  have hn5 := HN3.out.trans (Nw.of hx35)
  have hput : Calls Tryz.prog 10 #[.pointer (some ⟨O, 0, none⟩), .string kBo, numA 2] w5 (PutPostO (fun _ => False) O (od0 T) kBo (numV 2) w5) :=
    put_bo (HL.out.nw hn5) (H0.out.ext hx35)
  have HN5 := Lib.hid hn5
  have HPUT := Lib.hid hput
  clear hx5 hx35 hn5 hput HX4 H0 HL HN3
  go_wp2_with fail
  refine HPUT.out.mono ?_
  rintro e w6 ⟨rfl, sl, so, mb, s, hto⟩
  obtain ⟨hn6, ho6⟩ := hto.since HN5.out HO3.out
  obtain ⟨d1, hd1⟩ : ∃ d, d = (od0 T).step kBo ⟨true, numV 2, sl, so⟩ mb s := ⟨_, rfl⟩
  have hT1 : entsT d1.T = [(kAo, numV 1)] := by rw [hd1]; exact HE.out
  have hC1 : d1.C = putA [] kBo ⟨true, numV 2, sl, so⟩ := by rw [hd1]; rfl
  have hl1 : d1.us.length = 1 := by rw [hd1]; rfl
  have h6 := hto.at_
  rw [← hd1] at h6 ho6
  have hdel := delete_ov h6 (fun b h => h.elim) (by rw [hl1]; decide) (by rw [hT1]; decide) (k := kAo) (by decide)
  unfold DelPostO at hdel
  rw [now_b hT1 hC1] at hdel
  have HN6 := Lib.hid hn6
  have HO6 := Lib.hid ho6
  have HDEL := Lib.hid hdel
  have HC1 := Lib.hid hC1
  have HT1 := Lib.hid hT1
  have HL1 := Lib.hid hl1
  clear hto hn6 ho6 hd1 hT1 hC1 hl1 h6 hdel HPUT HN5 HO3 HE
  go_wp2_with fail
  refine HDEL.out.mono ?_
  rintro e w7 ⟨rfl, ⟨hf, -⟩ | ⟨-, mb2, s2, hto⟩⟩
  · cases hf
  obtain ⟨hn7, ho7⟩ := hto.since HN6.out HO6.out
  obtain ⟨d2, hd2⟩ : ∃ d, d = d1.step kAo zeroSV mb2 s2 := ⟨_, rfl⟩
  have hT2 : entsT d2.T = [(kAo, numV 1)] := by rw [hd2]; exact HT1.out
  have hC2 : d2.C = putA (putA [] kBo ⟨true, numV 2, sl, so⟩) kAo zeroSV := by rw [hd2, ← HC1.out]; rfl
  have hl2 : d2.us.length = 2 := by rw [hd2]; show (d1.us ++ [_]).length = 2; rw [List.length_append, HL1.out]; rfl
  have h7 := hto.at_
  rw [← hd2] at h7 ho7
  have hpre := prefix_ov h7 (by rw [hT2]; decide) (by rw [hl2]; decide) (p := kEo) (by decide)
  have HN7 := Lib.hid hn7
  have HO7 := Lib.hid ho7
  have HPRE := Lib.hid hpre
  have HC2 := Lib.hid hC2
  have HT2 := Lib.hid hT2
  have HL2 := Lib.hid hl2
  have H7 := Lib.hid h7
  clear hto hn7 ho7 hd2 hT2 hC2 hl2 h7 hpre HDEL HN6 HO6 HC1 HT1 HL1
  go_wp2_with fail
  refine HPRE.out.mono ?_
  rintro e w8 ⟨sp, ks, rfl, hn8, hrd, hri, hm⟩
  obtain rfl := pre_b HT2.out HC2.out rfl rfl hri hm
  have h8 := H7.out.nw hn8
  have hbk : Calls Tryz.prog 20 #[.pointer (some ⟨O, 0, none⟩), .int .i64 0] w8 (BackPost (fun _ => False) O d2 0 w8) := back_ov h8 (by rw [HL2.out]; decide) (m := 0) (Nat.zero_le _)
  have HN8 := Lib.hid (HN7.out.trans hn8)
  have HRD := Lib.hid hrd
  have HBK := Lib.hid hbk
  have HB8 := Lib.hid (fun b (hb : In w7.heap.size w8.heap.size b) => (⟨fun e => by have := H7.out.own_lt e; have := hb.1; omega, hb.2⟩ : ¬ OvB O d2 b ∧ b < w8.heap.size))
  clear hn8 hrd hri hm h8 hbk HPRE HN7 H7 HC2 HL2
  go_wp2_with fail
  refine HBK.out.mono ?_
  rintro e w9 ⟨rfl, hto⟩
  obtain ⟨hn9, ho9⟩ := hto.since HN8.out HO7.out
  obtain ⟨d3, hd3⟩ : ∃ d : OD, d = ⟨d2.T, d2.mb, d2.s, d2.us.take 0, d2.Hs.take (0 + 1), backA d2.us d2.C 0⟩ := ⟨_, rfl⟩
  have h9 := hto.at_
  rw [← hd3] at h9
  have hl3 : d3.us.length = 0 := by rw [hd3]; rfl
  have hC3 : d3.C = [] := by
    have a := h9.h0
    have b := h9.last
    rw [hl3, a] at b
    exact (Option.some.inj b).symm
  have hT3 : entsT d3.T = [(kAo, numV 1)] := by rw [hd3]; exact HT2.out
  have hrd9 : Rd w9 (In w7.heap.size w8.heap.size) 1 sp 1 [.string kBo] := HRD.out.agree fun b hb => hto.sb.block b (HB8.out b hb).2 (HB8.out b hb).1
  have hsm : ∀ W, Nw w9 W → Calls Tryz.prog 28 #[.slice sp.a 1 sp.c, .slice (some ⟨W.heap.size, 0, none⟩) 1 1] (W.alloc (.cells #[.string kBo] 9)) fun e w' => e = .returned (.bool true) ∧ Ext (W.alloc (.cells #[.string kBo] 9)) w' := fun W hW =>
    same12_refl (xs := [kBo]) (s := sp) (s' := ⟨some ⟨W.heap.size, 0, none⟩, 1⟩) (hrd9.agree (Nw.agree (hW.trans (Nw.of ((Ext.refl W).alloc #[.string kBo] 9))) fun b hb => Nat.lt_of_lt_of_le (HB8.out b hb).2 hto.sb.size))
      (fun b hb => Nat.lt_of_lt_of_le (HB8.out b hb).2 (Nat.le_trans hto.sb.size (Nat.le_trans hW.size ((Ext.refl W).alloc #[.string kBo] 9).size))) (rd_one W kBo) (fun b hb => by rw [hb, World.size_alloc]; omega) (by decide)
  have hpre := fun W (hW : Nw w9 W) => prefix_ov (h9.nw hW) (by rw [hT3]; decide) (by rw [hl3]; decide) (p := kEo) (by decide)
  have HN9 := Lib.hid hn9
  have HSM := Lib.hid hsm
  have HPRE := Lib.hid hpre
  have HC3 := Lib.hid hC3
  have HT3 := Lib.hid hT3
  clear hto hn9 ho9 hd3 h9 hl3 hC3 hT3 hrd9 hsm hpre HBK HN8 HRD HO7 HB8 HT2
  go_wp2_with fail
  refine (HSM.out _ (Nw.of (Ext.refl _))).mono ?_
  rintro e w10 ⟨rfl, hx10⟩
  have HX10 := Lib.hid (((Ext.refl w9).alloc #[.string kBo] 9).trans hx10)
  clear hx10 HSM
  go_wp2_with fail
  refine (HPRE.out _ (Nw.of HX10.out)).mono ?_
  rintro e w11 ⟨sq, ks, rfl, hn11, hrd, hri, hm⟩
  obtain rfl := pre_a HT3.out HC3.out hri hm
  have hsm : Calls Tryz.prog 28 #[.slice sq.a 1 sq.c, .slice (some ⟨w11.heap.size, 0, none⟩) 1 1] (w11.alloc (.cells #[.string kAo] 9)) fun e w' => e = .returned (.bool true) ∧ Ext (w11.alloc (.cells #[.string kAo] 9)) w' :=
    same12_refl (xs := [kAo]) (s := sq) (s' := ⟨some ⟨w11.heap.size, 0, none⟩, 1⟩) (hrd.agree (Nw.agree (Nw.of ((Ext.refl w11).alloc #[.string kAo] 9)) fun b hb => hb.2))
      (fun b hb => by have := hb.2; rw [World.size_alloc]; omega) (rd_one w11 kAo) (fun b hb => by rw [hb, World.size_alloc]; omega) (by decide)
  have HN11 := Lib.hid ((HN9.out.trans (Nw.of HX10.out)).trans hn11)
  have HSM := Lib.hid hsm
  clear hn11 hrd hri hm hsm HPRE HX10 HN9 HC3 HT3
  go_wp2_with fail
  refine HSM.out.mono ?_
  rintro e w12 ⟨rfl, hx12⟩
  have HN12 := Lib.hid (HN11.out.trans (Nw.of (((Ext.refl w11).alloc #[.string kAo] 9).trans hx12)))
  clear hx12 HSM HN11
  go_wp2_with fail
  go_ret
  exact ⟨rfl, HN12.out⟩
end Go.Proofs.YtechahocffcbpaaGreatDoor
namespace Go.Proofs.YtechahocffcbpaaGreatDoor
open Go.RowKit
set_option linter.unusedVariables false
set_option linter.unusedSimpArgs false
section
variable {H : Type} {enc : TypeId × Value → H} {P : Program} {w : World} {held : Bool}
theorem bulk_all_get : ∀ {l : List (DataW H)} {i : Nat} {d : DataW H}, l[i]? = some d → Rows.uptoBulk d ≤ Rows.uptoBulkAll l
  | [], i, d, h => by simp at h
  | x :: l, 0, d, h => by
    have : x = d := by simpa using h
    subst this
    simp only [Rows.uptoBulkAll]; omega
  | x :: l, i + 1, d, h => by
    have := bulk_all_get (l := l) (i := i) (d := d) (by simpa using h)
    simp only [Rows.uptoBulkAll]; omega
theorem trod_rowsB {t e : TypeId} {C B fuel : Nat} {cs : List Value} {x : DataW H × List MemPlace} (ht : P.underlying t = some (.slice e)) (hC : P.cellsOf e = C) (hB : P.bytesOf e = B) (hC0 : 0 < C)
    (h : tr enc P w held fuel t cs = some x) (hw : WOk P t x.1) :
    ∃ (n len : Nat) (s : Sl) (b o : Nat) (es : List (DataW H)), fuel = n + 1 ∧ cs = [.slice s.a len s.c] ∧ SlAt (Lt w.heap.size) s len b o ∧ len * B ≤ 140737488351232 ∧ es.length = len ∧ Rows.uptoBulkAll es + 1 ≤ Rows.uptoBulk x.1 ∧
      ∀ i, i < len → ∃ cs' y, cs'.length = C ∧ (∀ j, j < C → w.cell? ⟨b, o + i * C + j, none⟩ = cs'[j]?) ∧ tr enc P w held n e cs' = some y ∧ WOk P e y.1 ∧ es[i]? = some y.1 := by
  rcases DataW.trod_slice ht h with ⟨rfl, rfl⟩ | ⟨a, len, cap, elems, rest, n, hfu, hcs, hx, -, hl, hm, hlen, hel, hsp, -⟩
  · cases fuel with
    | zero => simp [tr, DataW.trod] at h
    | succ n => exact ⟨n, 0, Sl.none, 0, 0, [], rfl, rfl, .nil _ _, by omega, rfl, by simp [Rows.uptoBulk, Rows.uptoBulkAll], fun i hi => by omega⟩
  · obtain ⟨n', len', s, b, o, hfu', hcs', hs, hby, he⟩ := trod_rows ht hC hB hC0 h hw
    subst hcs hx hfu
    obtain rfl : n = n' := by omega
    have hcs2 : Value.slice (some a) len cap = .slice s.a len' s.c := by simpa using hcs'
    injection hcs2 with e1 e2 e3
    subst e2
    refine ⟨n, len, s, b, o, elems.map (·.1), rfl, hcs', hs, hby, by rw [List.length_map]; exact hlen, by simp only [Rows.uptoBulk]; omega, fun i hi => ?_⟩
    obtain ⟨cs', y, hl', hc, ht', hw'⟩ := he i hi
    refine ⟨cs', y, hl', hc, ht', hw', ?_⟩
    have hE := hel i hi
    rw [List.getElem?_eq_getElem (by omega)] at hE
    obtain ⟨cs2, h1, h2⟩ := Option.bind_eq_some_iff.1 hE
    obtain ⟨-, hl1, hat1⟩ := World.cells?_some h1
    rw [hC] at hl1 hat1
    have hsa : s.a = some ⟨b, o, none⟩ := (hs.eq (by omega)).1
    rw [hsa] at e1
    obtain rfl : a = ⟨b, o, none⟩ := by injection e1
    have : cs2 = cs' := by
      refine List.ext_getElem? fun j => ?_
      by_cases hj : j < C
      · have := hat1 j hj
        rw [Go.WideShapes.add_plain, Go.WideShapes.add_plain] at this
        rw [← hc j hj, ← this]
      · rw [List.getElem?_eq_none (by omega), List.getElem?_eq_none (by omega)]
    subst this
    rw [List.getElem?_map, List.getElem?_eq_getElem (by omega)]
    have : some (elems[i]'(by omega)) = some y := by rw [← h2]; exact ht'
    simp only [Option.map_some]
    injection this with this
    rw [this]
theorem trod_fieldsB {t : TypeId} {fs : List Field} {fuel : Nat} {cs : List Value} {x : DataW H × List MemPlace} (ht : P.underlying t = some (.struct fs.toArray)) (h : tr enc P w held fuel t cs = some x) (hw : WOk P t x.1) :
    ∃ n ds, fuel = n + 1 ∧ cs.length = P.cellsOf t ∧ x.1 = .agg ds ∧ ∀ (i : Nat) (f : Field), fs[i]? = some f → ∃ y, tr enc P w held n f.type ((cs.drop f.offset).take (P.cellsOf f.type)) = some y ∧ WOk P f.type y.1 ∧ ds[i]? = some y.1 := by
  obtain ⟨xs, n, rfl, rfl, hl, hlen, hf⟩ := DataW.trod_struct ht h
  refine ⟨n, xs.map (·.1), rfl, hl, rfl, fun i f hi => ?_⟩
  have hw' : (DataW.weightsEach P (fs.map (·.type)) (xs.map (·.1))).all (· ≤ reachBytes) = true := by
    have := hw
    simpa [WOk, DataW.weights, ht] using this
  have hil : i < fs.length := (List.getElem?_eq_some_iff.1 hi).1
  have h1 := hf i f (by simpa using hi)
  have hxl : i < xs.length := by simp at hlen; omega
  rw [List.getElem?_eq_getElem hxl] at h1
  exact ⟨_, h1, weightsEach_at hw' i _ _ (by rw [List.getElem?_map, hi]; rfl) (by rw [List.getElem?_map, List.getElem?_eq_getElem hxl]; rfl), by rw [List.getElem?_map, List.getElem?_eq_getElem hxl]; rfl⟩
end
theorem bulk_pos {H : Type} (d : DataW H) : 1 ≤ Rows.uptoBulk d := by
  cases d with
  | lit l => cases l <;> simp [Rows.uptoBulk]
  | _ => simp [Rows.uptoBulk]
end Go.Proofs.YtechahocffcbpaaGreatDoor
namespace Go.Proofs.YtechahocffcbpaaGreatDoor
open Go.RowKit Go.Maps Go.Shelf
set_option linter.unusedVariables false
set_option linter.unusedSimpArgs false
structure LB12 where
  kd : Int
  k : ByteArray
  v : Val
  sl : Sl
  so : Sl
  n : Int
instance : Inhabited LB12 := ⟨⟨0, ByteArray.empty, default, Sl.none, Sl.none, 0⟩⟩
structure A12C (w : World) (b o : Nat) (x : LB12) : Prop where
  c0 : w.cell? ⟨b, o, none⟩ = some (.int .i64 x.kd)
  c1 : w.cell? ⟨b, o + 1, none⟩ = some (.string x.k)
  cv : VCells w b (o + 2) x.v x.sl x.so
  c8 : w.cell? ⟨b, o + 8, none⟩ = some (.int .i64 x.n)
structure AS12 (w : World) (F : Nat → Prop) (s : Sl) (xs : List LB12) : Prop where
  ex : ∃ b o, SlAt F s xs.length b o ∧ ∀ j x, xs[j]? = some x → A12C w b (o + j * 9) x
  vals : ∀ x ∈ xs, RV w F x.v x.sl x.so ∧ x.k.size ≤ maxLen ∧ (Lit.int .i64 x.kd).wf = true ∧ (Lit.int .i64 x.n).wf = true
  few : ∀ x ∈ xs, cntV x.v ≤ 1100000
theorem AS12.at {w : World} {F : Nat → Prop} {s : Sl} {xs : List LB12} (h : AS12 w F s xs) {i : Nat} {x : LB12} (hx : xs[i]? = some x) :
    ∃ b o, s.a = some ⟨b, o, none⟩ ∧ F b ∧ xs.length ≤ s.c ∧ s.c ≤ maxLen ∧ A12C w b (o + i * 9) x ∧ RV w F x.v x.sl x.so ∧ x.k.size ≤ maxLen ∧ cntV x.v ≤ 1100000 ∧ (Lit.int .i64 x.kd).wf = true ∧ (Lit.int .i64 x.n).wf = true := by
  obtain ⟨b, o, h1, h2⟩ := h.ex
  obtain ⟨e1, e2, e3⟩ := h1.eq (lt_length hx)
  have hm := List.mem_of_getElem? hx
  have hv := h.vals x hm
  exact ⟨b, o, e1, h1.fits (lt_length hx), e2, e3, h2 i x hx, hv.1, hv.2.1, h.few x hm, hv.2.2.1, hv.2.2.2⟩
theorem A12C.agree {w w' : World} {b o : Nat} {x : LB12} (h : A12C w b o x) {F : Nat → Prop} (ha : Agree F w w') (hb : F b) : A12C w' b o x := ⟨(ha.cell hb).trans h.c0, (ha.cell hb).trans h.c1, h.cv.agree ha hb, (ha.cell hb).trans h.c8⟩
theorem AS12.agree {w w' : World} {F : Nat → Prop} {s : Sl} {xs : List LB12} (h : AS12 w F s xs) (ha : Agree F w w') : AS12 w' F s xs := by
  obtain ⟨⟨b, o, h1, h2⟩, h3, h4⟩ := h
  exact ⟨⟨b, o, h1, fun j x hx => (h2 j x hx).agree ha (h1.fits (lt_length hx))⟩, fun x hx => ⟨(h3 x hx).1.agree ha, (h3 x hx).2⟩, h4⟩
end Go.Proofs.YtechahocffcbpaaGreatDoor
