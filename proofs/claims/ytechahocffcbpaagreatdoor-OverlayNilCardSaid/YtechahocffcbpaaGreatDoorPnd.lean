/- What the theorem needs of the texts ScanK, ScanQ, KeysEnd, ScanX, Known08, Law8B, Coll3, MeetO, OvStepW, OvPut, OvLay, OvSort, OvPre, OvPre2, OvPreW, OvCom0: no condition of its own. -/
import Derived.RangeFuncNested
import Derived.RangeFuncBound
import Derived.RangeFuncCalls
import Derived.RangeFuncLeaves
import Derived.Shelf.Abstract
import Derived.Shelf.RegionOpen
import Derived.OwnWalkIn
import Derived.TacticsInMore
import Derived.LoopNIn
import Derived.LoopIn
import Derived.Deep.RegionLaw
import Derived.Lib.SliceRun
import Derived.Laws.IdiomStrings
import Derived.WalkArith
import Derived.WideKeyArgs
import Derived.ChangeOld
import Derived.Handed
import Derived.ProofKit
import Derived.OpenShut
import Derived.WalkKit
import Derived.OrdersIn
import Derived.WalkMore
import Derived.Deep.CutBlock
import Derived.Deep.DeepCutAuto
import Derived.Shelf.SlIter.Nil
import Derived.Shelf.SortM.Plain
import Derived.Shelf.SortM.SortNone
import Derived.Ground.GgzProg
import Derived.Ground.SlgmProg
import Derived.Ground.NamesProg
import Derived.Shelf.Strings.Prefix
import Derived.Shelf.Strconv.Itoa4
import Derived.Shelf.Unicode.ValidAny
import Derived.Shelf.Small.Wraps
import Derived.Sort.OwnSorted
import Derived.Sort.KeysCollected
import Derived.Sort.MapsRangeIn
import Derived.Test.YtechahocffcbpaaGreatDoorPna
import Derived.Test.YtechahocffcbpaaGreatDoorPnb
import Derived.Test.YtechahocffcbpaaGreatDoorPnc
set_option maxRecDepth 100000
set_option maxHeartbeats 4000000
namespace Go.Proofs.YtechahocffcbpaaGreatDoor
open Go.RowKit Go.Shelf
set_option linter.unusedVariables false
set_option linter.unusedSimpArgs false
attribute [local go_sem] Oper.semAt_some
abbrev encE (x : LE) : Array Value := #[.string x.k, aggV x.v x.sl x.so]
structure ScanG (all : List Ent) (pre : List LE) (x : LE) (W0 W1 : World) : Prop where
  at_ : all[pre.length]? = some x.ent
  pre_ : pre.map LE.ent = all.take pre.length
  val : RV W1 (In W0.heap.size W1.heap.size) x.v x.sl x.so
  key : x.k.size ≤ maxLen
def WalkPost (lo hi : ByteArray) (op : Bool) (es all : List Ent) (pre : List LE) (J : List LE → (Nat → Prop) → World → Prop) (Jx : List LE → World → Prop) (C : Nat → Prop) (W : World) (e : Ending) (W' : World) : Prop :=
  (∃ (new : List LE) (C' : Nat → Prop) (W0 : World), (e = .returned (.bool true) ∨ (e = .returned (.bool false) ∧ ∃ x ∈ es, endI hi op x.1 = true)) ∧ J (pre ++ new) C' W0 ∧ Ext W0 W' ∧ new.map LE.ent = rangeE lo hi op es ∧ St C W W' ∧ ∀ b, C' b → C b ∨ W.heap.size ≤ b) ∨
  (e = .returned (.bool false) ∧ St C W W' ∧ ∃ pre' W0, Jx pre' W0 ∧ Ext W0 W' ∧ pre'.map LE.ent <+: all)
theorem scanG_next {all rest : List Ent} {pre new : List LE} {A : List Ent} {lo hi : ByteArray} {op : Bool} {x : LE} {B : List Ent} (hall : all = pre.map LE.ent ++ (rangeE lo hi op (A ++ x.ent :: B) ++ rest)) (hn : new.map LE.ent = rangeE lo hi op A) (h1 : klt x.k lo = false) (h2 : endI hi op x.k = false) :
    all[(pre ++ new).length]? = some x.ent ∧ (pre ++ new).map LE.ent = all.take (pre ++ new).length ∧ (new ++ [x]).map LE.ent = rangeE lo hi op (A ++ [x.ent]) := by
  have e1 : rangeE lo hi op (A ++ x.ent :: B) = rangeE lo hi op A ++ (x.ent :: rangeE lo hi op B) := by
    rw [show A ++ x.ent :: B = A ++ ([x.ent] ++ B) from rfl, rangeE_app, rangeE_app, rangeE_one (e := x.ent) h1 h2]; rfl
  rw [e1, ← hn] at hall
  have e2 : all = (pre ++ new).map LE.ent ++ (x.ent :: (rangeE lo hi op B ++ rest)) := by rw [hall]; simp
  have hl : (pre ++ new).length = ((pre ++ new).map LE.ent).length := by simp
  refine ⟨?_, ?_, ?_⟩
  · rw [e2, hl, List.getElem?_append_right (Nat.le_refl _), Nat.sub_self]; rfl
  · rw [e2, hl, List.take_left]
  · rw [List.map_append, hn, rangeE_app, List.map_cons, List.map_nil, rangeE_one (e := x.ent) h1 h2]
theorem rangeE_rest {lo hi : ByteArray} {op : Bool} {es : List Ent} (hs : Sorted es) {i : Nat} {x : Ent} (hx : es[i]? = some x) (he : endI hi op x.1 = true) : rangeE lo hi op (es.take i) = rangeE lo hi op es := by
  have hd : es.drop i = x :: es.drop (i + 1) := by
    obtain ⟨h1, rfl⟩ := List.getElem?_eq_some_iff.1 hx
    exact List.drop_eq_getElem_cons h1
  conv => rhs; rw [← List.take_append_drop i es]
  rw [rangeE_app, rangeE_above (es := es.drop i), List.append_nil]
  intro e hem
  have hsd : Sorted (es.drop i) := List.Pairwise.sublist (List.drop_sublist _ _) hs
  rw [hd] at hem hsd
  rcases List.mem_cons.1 hem with rfl | hem
  · exact he
  · exact endI_up he ((List.pairwise_cons.1 hsd).1 e hem)
theorem take_snoc_prefix {α : Type} {l : List α} {n : Nat} {x : α} (h : l[n]? = some x) : l.take n ++ [x] <+: l := by
  have e : l.take (n + 1) = l.take n ++ [x] := by rw [List.take_add_one, h]; rfl
  rw [← e]; exact List.take_prefix _ _
structure LeafS (lo hi : ByteArray) (op : Bool) (es : List Ent) (At : World → Prop) (pre : List LE) (J : List LE → (Nat → Prop) → World → Prop) (C : Nat → Prop) (W : World) (i : Nat) (new : List LE) (C' : Nat → Prop) (Wj wr : World) : Prop where
  j : J (pre ++ new) C' Wj
  ext : Ext Wj wr
  new_ : new.map LE.ent = rangeE lo hi op (es.take i)
  st : St C W wr
  sub : ∀ b, C' b → C b ∨ W.heap.size < b
  box : Blk wr W.heap.size 176 #[.string lo, .string hi, .bool op]
  at_ : At wr
theorem walkLeaf_any {At : World → Prop} {F : Nat → Prop} {nv : Value} {es : List Ent} (hc : LeafC At nv es) (hagr : ∀ W W', At W → Agree F W W' → W.heap.size ≤ W'.heap.size → At W') (hsm : ∀ e ∈ es, e.1.size ≤ maxLen) {lo hi : ByteArray} {op : Bool} {all rest : List Ent} {pre : List LE}
    {l : Nat} {J : List LE → (Nat → Prop) → World → Prop} {Jx : List LE → World → Prop} (hT : Takes Tryz.prog l encE (ScanG all) J Jx) {C : Nat → Prop} {W0 W : World} (hJ : J pre C W0) (hx : Ext W0 W) (hw : At W) (hF : ∀ b, F b → b < W.heap.size ∧ ¬ C b) (hall : all = pre.map LE.ent ++ (rangeE lo hi op es ++ rest)) :
    Calls Tryz.prog 170 #[nv, inV lo hi op, .func (.yield l) #[] #[]] W (WalkPost lo hi op es all pre J Jx C W) := by
  obtain ⟨pp, rfl⟩ := hc.ptr
  have hl := hc.few
  have hCl := hT.lt pre C W0 hJ
  have hx1 : Ext W (W.alloc (.cells #[.string lo, .string hi, .bool op] 176)) := (Ext.refl W).alloc _ _
  have hb1 := Blk.new W 176 #[.string lo, .string hi, .bool op]
  have hbe := below_any hc (hc.ext hw hx1) lo
  obtain ⟨hp1, hp2⟩ := pos_split es lo hc.sorted
  obtain ⟨p, hp⟩ : ∃ p, posE es lo = p := ⟨_, rfl⟩
  rw [hp] at hbe hp1 hp2
  have hple : p ≤ es.length := by rw [← hp]; exact posE_le _ _
  have q0 : (W.alloc (.cells #[.string lo, .string hi, .bool op] 176)).cell? ⟨W.heap.size, 0, none⟩ = some (.string lo) := hb1.cell 0
  have HC := Lib.hid hc
  have HAG := Lib.hid hagr
  have HSM := Lib.hid hsm
  have HT := Lib.hid hT
  have HJ := Lib.hid hJ
  have HX := Lib.hid hx
  have HW := Lib.hid hw
  have HF := Lib.hid hF
  have HALL := Lib.hid hall
  have HB1 := Lib.hid hb1
  have HBE := Lib.hid hbe
  have HP1 := Lib.hid hp1
  have HP2 := Lib.hid hp2
  have HX1 := Lib.hid hx1
  have HCL := Lib.hid hCl
  clear hc hagr hsm hT hJ hx hw hF hall hbe hp1 hp2 hp hb1 hx1 hCl
  refine (callsIn_wide (n := 5)).1 ?_
  refine callsIn_of_wp Tryz.func170 rfl trivial ?_ rfl
  simp only [Tryz.ntmps170, List.size_toArray, List.length_cons, List.length_nil, Nat.reduceAdd, Nat.reduceSub, Array.replicate_succ, Array.replicate_zero, List.push_toArray, List.append_toArray, List.nil_append, List.cons_append]
  gi_wp2_with fail
  refine ⟨trivial, ?_⟩
  refine (callsIn_wide.2 HBE.out).mono ?_
  rintro e w1 ⟨rfl, hx2⟩
  have HX2 := Lib.hid (HX1.out.trans hx2)
  have HB2 := Lib.hid (HB1.out.ext hx2)
  clear hx2 q0 HBE
  gi_wp2_with fail
  gi_loopw [7] (fun v wr => ∃ (i : Nat) (new : List LE) (C' : Nat → Prop) (Wj : World), v = .int .i64 i ∧ p ≤ i ∧ i ≤ es.length ∧ LeafS lo hi op es At pre J C W i new C' Wj wr) (fun v _ => es.length - (intOf v).toNat)
  case atStart => exact ⟨p, [], C, W0, rfl, Nat.le_refl _, hple, ⟨by rw [List.append_nil]; exact HJ.out, HX.out.trans HX2.out, by rw [rangeE_below HP1.out]; rfl, HX2.out.st _, fun b hb => .inl hb, HB2.out, HC.out.ext HW.out HX2.out⟩⟩
  case round =>
    obtain ⟨i, new, C', Wj, rfl, hpi, hil, hS⟩ := hrel
    have HS := Lib.hid hS
    have hsz := HC.out.size wr hS.at_
    have HSZ := Lib.hid hsz
    clear hS hsz
    gi_wp2_with fail
    refine ⟨trivial, ?_⟩
    refine (callsIn_wide.2 HSZ.out).mono ?_
    rintro e w2 ⟨rfl, q, rfl⟩
    have hxq : Ext wr (wr.drewN q) := (Ext.refl wr).drewN q
    by_cases hlt : i < es.length
    · have g1 : (i : Int) < (es.length : Int) := by omega
      have g1' : decide ((i : Int) < (es.length : Int)) = true := decide_eq_true g1
      obtain ⟨x, hxi⟩ : ∃ x, es[i]? = some x := ⟨_, List.getElem?_eq_getElem hlt⟩
      have hen := HC.out.entry (wr.drewN q) (HC.out.ext HS.out.at_ hxq) i x hxi
      have HEN := Lib.hid hen
      have HXI := Lib.hid hxi
      clear hen hxi
      gi_wp2_with fail
      refine ⟨trivial, ?_⟩
      refine (callsIn_wide.2 HEN.out).mono ?_
      rintro e w3 ⟨sl, so, rfl, hx3, hrv⟩
      have hx4 : Ext w3 (w3.alloc (.cells #[.string x.1, .int .i64 x.2.kind, .bool x.2.b, .int .i64 x.2.i, .string x.2.t, .slice sl.a x.2.l.length sl.c, .slice so.a x.2.ok.length so.c] 64)) := (Ext.refl w3).alloc _ _
      have hb4 := Blk.new w3 64 #[.string x.1, .int .i64 x.2.kind, .bool x.2.b, .int .i64 x.2.i, .string x.2.t, .slice sl.a x.2.l.length sl.c, .slice so.a x.2.ok.length so.c]
      have HX4 := Lib.hid ((hxq.trans hx3).trans hx4)
      have HX34 := Lib.hid hx4
      have HB4 := Lib.hid hb4
      have HRV := Lib.hid hrv
      have hbx := HS.out.box.ext (hxq.trans hx3)
      have qb0 : w3.cell? ⟨W.heap.size, 0, none⟩ = some (.string lo) := hbx.cell 0
      have qb1 : w3.cell? ⟨W.heap.size, 1, none⟩ = some (.string hi) := hbx.cell 1
      have qb2 : w3.cell? ⟨W.heap.size, 2, none⟩ = some (.bool op) := hbx.cell 2
      have lb := hbx.lt
      clear hx3 hx4 hb4 hrv hbx
      gi_wp2_with fail
      refine ⟨trivial, ?_⟩
      refine (callsIn_wide.2 (ends_any _ lo hi op x.1)).mono ?_
      rintro e w5 ⟨rfl, hx5⟩
      have hX5 := HX4.out.trans hx5
      have hb5 := HB4.out.ext hx5
      obtain ⟨c0, c1, c2, c3, c4, c5, c6⟩ := hb5.c7
      have hat5 := HC.out.ext HS.out.at_ hX5
      have hbx5 := HS.out.box.ext hX5
      have hs4 := HX34.out.size
      have hs5 := hx5.size
      have hsj := HS.out.ext.size
      have hrv5 : RV w5 (In wr.heap.size w5.heap.size) x.2 sl so := ((HRV.out.agree (HX34.out.agree fun b hb => hb.2)).agree (hx5.agree fun b hb => by have := hb.2; omega)).mono fun b hb => ⟨hb.1, by have := hb.2; omega⟩
      have HX5 := Lib.hid hX5
      have HAT := Lib.hid hat5
      have HBX := Lib.hid hbx5
      have HRV5 := Lib.hid hrv5
      clear hx5 hX5 hb5 hat5 hbx5 hrv5 HRV HX4 HX34 HB4 qb0 qb1 qb2
      cases hend : endI hi op x.1 with
      | true =>
        gi_wp2_with fail
        refine ⟨fun _ h => absurd h (by simp), ?_⟩
        gi_wp2_with fail
        go_ret
        refine .inl ⟨new, C', Wj, .inr ⟨rfl, x, List.mem_of_getElem? HXI.out, hend⟩, HS.out.j, HS.out.ext.trans HX5.out, ?_, HS.out.st.ext HX5.out, fun b hb => (HS.out.sub b hb).imp_right Nat.le_of_lt⟩
        rw [HS.out.new_, rangeE_rest HC.out.sorted HXI.out hend]
      | false =>
        have hge : klt x.1 lo = false := HP2.out x (by
          obtain ⟨h1, rfl⟩ := List.getElem?_eq_some_iff.1 HXI.out
          rw [List.mem_iff_getElem?]
          exact ⟨i - p, by rw [List.getElem?_drop, Nat.add_sub_cancel' hpi]; exact HXI.out⟩)
        have hes : es = es.take i ++ x :: es.drop (i + 1) := by
          obtain ⟨h1, h2⟩ := List.getElem?_eq_some_iff.1 HXI.out
          conv => lhs; rw [← List.take_append_drop i es, List.drop_eq_getElem_cons h1, h2]
        obtain ⟨n1, n2, n3⟩ := scanG_next (x := ⟨x.1, x.2, sl, so⟩) (A := es.take i) (B := es.drop (i + 1)) (all := all) (rest := rest) (pre := pre) (by show all = pre.map LE.ent ++ (rangeE lo hi op (es.take i ++ x :: es.drop (i + 1)) ++ rest); rw [← hes]; exact HALL.out) HS.out.new_ hge hend
        have hy := HT.out.take (pre ++ new) C' ⟨x.1, x.2, sl, so⟩ Wj w5 HS.out.j (HS.out.ext.trans HX5.out) ⟨n1, n2, HRV5.out.mono fun b hb => ⟨by have := hb.1; omega, hb.2⟩, HSM.out x (List.mem_of_getElem? HXI.out)⟩
        obtain ⟨fn, tmps, assign, body, hy, hR⟩ := hy
        have HR := Lib.hid hR
        have HN1 := Lib.hid n1
        have HN2 := Lib.hid n2
        have HN3 := Lib.hid n3
        have HES := Lib.hid hes
        clear hR n1 n2 n3 hes
        dsimp only [encE] at hy
        gi_wp2_with fail
        refine HR.out.mono ?_
        rintro e w6 (⟨rfl, C6, hj6, hst6, hsub6⟩ | ⟨rfl, hjx, hst6⟩)
        · have hj6' : J (pre ++ (new ++ [⟨x.1, x.2, sl, so⟩])) C6 w6 := by rw [← List.append_assoc]; exact hj6
          have hWC : ∀ b, b ≤ W.heap.size → C' b → C b := fun b hb h => by
            rcases HS.out.sub b h with h | h
            · exact h
            · omega
          have hWC0 : ¬ C' W.heap.size := fun h => by
            have h1 := HCL.out _ (hWC _ (Nat.le_refl _) h)
            have := HX.out.size; omega
          have HS6 := Lib.hid (show LeafS lo hi op es At pre J C W (i + 1) (new ++ [⟨x.1, x.2, sl, so⟩]) C6 w6 w6 from
            ⟨hj6', Ext.refl _, by rw [HN3.out, List.take_add_one, HXI.out]; rfl, (HS.out.st.ext HX5.out).then hst6 (fun b hb h => hWC b (Nat.le_of_lt hb) h), fun b hb => by
              rcases hsub6 b hb with h | h
              · exact HS.out.sub b h
              · exact .inr (by omega), hst6.blk HBX.out hWC0, HAG.out w5 w6 HAT.out (hst6.agree.mono fun b hb => ⟨by have := (HF.out b hb).1; omega, fun h => (HF.out b hb).2 (hWC b (Nat.le_of_lt (HF.out b hb).1) h)⟩) hst6.size⟩)
          clear hj6 hst6 hsub6 hj6' hWC hWC0 hy
          gi_wp2_with fail
          go_roundw
          case rel => exact ⟨i + 1, _, C6, w6, by go_num, by omega, hlt, HS6.out⟩
          case measure => simp [intOf]; omega
        · gi_wp2_with fail
          go_ret
          have hst : St C W w6 := (HS.out.st.ext HX5.out).then hst6 fun b hb h => by
            rcases HS.out.sub b h with h | h
            · exact h
            · omega
          exact .inr ⟨rfl, hst, _, w6, hjx, Ext.refl _, by
            rw [List.map_append, HN2.out]
            exact take_snoc_prefix HN1.out⟩
    · obtain rfl : i = es.length := by omega
      gi_wp2_with fail
      go_ret
      refine .inl ⟨new, C', Wj, .inl rfl, HS.out.j, HS.out.ext.trans hxq, ?_, HS.out.st.ext hxq, fun b hb => (HS.out.sub b hb).imp_right Nat.le_of_lt⟩
      rw [HS.out.new_, List.take_length]
theorem keys_small {w : World} {F : Nat → Prop} : ∀ {h : Nat} {t : PT h}, IsN w F h t → ∀ e ∈ ents h t, e.1.size ≤ maxLen
  | 0, t, ⟨_, s, xs, _, h3, h4⟩, e, he => by
    have he : e ∈ t.2 := he
    rw [← h4] at he
    obtain ⟨x, hx, rfl⟩ := List.mem_map.1 he
    exact (h3.vals x hx).2
  | h + 1, t, ⟨_, s, _, _, h4⟩, e, he => by
    have he : e ∈ t.2.flatMap (ents h) := he
    obtain ⟨k, hk, he⟩ := List.mem_flatMap.1 he
    exact keys_small (h4 k hk) e he
theorem WalkPost.from {lo hi : ByteArray} {op : Bool} {es all : List Ent} {pre : List LE} {J : List LE → (Nat → Prop) → World → Prop} {Jx : List LE → World → Prop} {C : Nat → Prop} {W W1 : World} {e : Ending} {W' : World} (h : WalkPost lo hi op es all pre J Jx C W1 e W') (hx : Ext W W1) : WalkPost lo hi op es all pre J Jx C W e W' := by
  rcases h with ⟨new, C', W0, h1, h2, h3, h4, h5, h6⟩ | h
  · exact .inl ⟨new, C', W0, h1, h2, h3, h4, (hx.st C).trans h5, fun b hb => (h6 b hb).imp_right fun h => Nat.le_trans hx.size h⟩
  · exact .inr ⟨h.1, (hx.st C).trans h.2.1, h.2.2⟩
theorem WalkPost.bool {lo hi : ByteArray} {op : Bool} {es all : List Ent} {pre : List LE} {J : List LE → (Nat → Prop) → World → Prop} {Jx : List LE → World → Prop} {C : Nat → Prop} {W : World} {e : Ending} {W' : World} (h : WalkPost lo hi op es all pre J Jx C W e W') : ∃ b, e = .returned (.bool b) := by
  rcases h with ⟨new, C', W0, h1 | h1, _⟩ | h
  · exact ⟨_, h1⟩
  · exact ⟨_, h1.1⟩
  · exact ⟨_, h.1⟩
theorem walk_leaf {At : World → Prop} {F : Nat → Prop} {nv : Value} {es : List Ent} (hc : LeafC At nv es) (hagr : ∀ W W', At W → Agree F W W' → W.heap.size ≤ W'.heap.size → At W') (hsm : ∀ e ∈ es, e.1.size ≤ maxLen) {lo hi : ByteArray} {op : Bool} {all rest : List Ent} {pre : List LE}
    {l : Nat} {J : List LE → (Nat → Prop) → World → Prop} {Jx : List LE → World → Prop} (hT : Takes Tryz.prog l encE (ScanG all) J Jx) {C : Nat → Prop} {W0 W : World} (hJ : J pre C W0) (hx : Ext W0 W) (hw : At W) (hF : ∀ b, F b → b < W.heap.size ∧ ¬ C b) (hall : all = pre.map LE.ent ++ (rangeE lo hi op es ++ rest)) :
    Calls Tryz.prog 121 #[nv, inV lo hi op, .func (.yield l) #[] #[]] W (WalkPost lo hi op es all pre J Jx C W) := by
  have hx1 : Ext W (W.alloc (.cells #[.string lo, .string hi, .bool op] 176)) := (Ext.refl W).alloc _ _
  have hh := hc.height _ (hc.ext hw hx1)
  have hwl := walkLeaf_any hc hagr hsm hT hJ (hx.trans hx1) (hc.ext hw hx1) (fun b hb => ⟨Nat.lt_of_lt_of_le (hF b hb).1 hx1.size, (hF b hb).2⟩) hall
  obtain ⟨pp, rfl⟩ := hc.ptr
  have HWL := Lib.hid hwl
  have HX1 := Lib.hid hx1
  clear hc hagr hsm hT hJ hx hw hF hall hwl hx1
  go_enter Tryz.func121, Tryz.ntmps121
  go_wp2_with fail
  refine hh.mono ?_
  rintro e w1 ⟨rfl, rfl⟩
  go_wp2_with fail
  refine HWL.out.mono ?_
  rintro e w2 hp
  obtain ⟨b, rfl⟩ := hp.bool
  have HP := Lib.hid (hp.from HX1.out)
  clear hp
  go_wp2_with fail
  go_ret
  exact HP.out
structure NodeS (lo hi : ByteArray) (op : Bool) (F : Nat → Prop) (h : Nat) (t : PT (h + 1)) (pre : List LE) (J : List LE → (Nat → Prop) → World → Prop) (C : Nat → Prop) (W w3 : World) (g : Nat) (j : Nat) (new : List LE) (C' : Nat → Prop) (Wj wr : World) : Prop where
  j_ : J (pre ++ new) C' Wj
  ext : Ext Wj wr
  new_ : new.map LE.ent = rangeE lo hi op ((t.2.take j).flatMap (ents h))
  st : St C W wr
  sub : ∀ b, C' b → C b ∨ w3.heap.size ≤ b
  big : w3.heap.size ≤ wr.heap.size
  box : Blk wr W.heap.size 176 #[.string lo, .string hi, .bool op]
  rows : ∀ o, wr.cell? ⟨g, o, none⟩ = w3.cell? ⟨g, o, none⟩
  at_ : NodeAt F (h + 1) t wr
theorem walk_succ {F : Nat → Prop} {lo hi : ByteArray} {op : Bool} {all : List Ent} {l : Nat} {J : List LE → (Nat → Prop) → World → Prop} {Jx : List LE → World → Prop} (hT : Takes Tryz.prog l encE (ScanG all) J Jx) {h : Nat}
    (ih : ∀ (t : PT h) (pre : List LE) (rest : List Ent) (C : Nat → Prop) (W0 W : World), J pre C W0 → Ext W0 W → NodeAt F h t W → (∀ b, F b → ¬ C b) → OkT h t → Sorted (ents h t) → (ents h t).length ≤ 1000000 → all = pre.map LE.ent ++ (rangeE lo hi op (ents h t) ++ rest) →
      Calls Tryz.prog 121 #[ptr h t, inV lo hi op, .func (.yield l) #[] #[]] W (WalkPost lo hi op (ents h t) all pre J Jx C W))
    {t : PT (h + 1)} {pre : List LE} {rest : List Ent} {C : Nat → Prop} {W0 W : World} (hJ : J pre C W0) (hx : Ext W0 W) (hn : NodeAt F (h + 1) t W) (hF : ∀ b, F b → ¬ C b) (ok : OkT (h + 1) t) (hs : Sorted (ents (h + 1) t)) (hl : (ents (h + 1) t).length ≤ 1000000) (hall : all = pre.map LE.ent ++ (rangeE lo hi op (ents (h + 1) t) ++ rest)) :
    Calls Tryz.prog 121 #[ptr (h + 1) t, inV lo hi op, .func (.yield l) #[] #[]] W (WalkPost lo hi op (ents (h + 1) t) all pre J Jx C W) := by
  have hlen8 := ok.2.1
  have hlen2 := ok.1
  have hCl := hT.lt pre C W0 hJ
  have hx1 : Ext W (W.alloc (.cells #[.string lo, .string hi, .bool op] 176)) := (Ext.refl W).alloc _ _
  have hb1 := Blk.new W 176 #[.string lo, .string hi, .bool op]
  have hh := height_any (hn.ext hx1).1
  have hkc := kids_any (hn.ext hx1).1 (by omega)
  have hhm : h + 1 < 1000000 := Nat.lt_of_lt_of_le (height_lt (h + 1) t ok (by show 1 ≤ t.2.length; omega)) hl
  have hne : (((h + 1 : Nat) : Int) == 0) = false := beq_eq_false_iff_ne.2 (by omega)
  have hne' : ((h : Int) + 1 == 0) = false := beq_eq_false_iff_ne.2 (by omega)
  have HT := Lib.hid hT
  have HIH := Lib.hid ih
  have HJ := Lib.hid hJ
  have HX := Lib.hid hx
  have HN := Lib.hid hn
  have HF := Lib.hid hF
  have HOK := Lib.hid ok
  have HS := Lib.hid hs
  have HL := Lib.hid hl
  have HALL := Lib.hid hall
  have HX1 := Lib.hid hx1
  have HB1 := Lib.hid hb1
  have HCL := Lib.hid hCl
  clear hT ih hJ hx hn hF ok hs hl hall hx1 hb1 hCl
  refine (callsIn_wide (n := 5)).1 ?_
  refine callsIn_of_wp Tryz.func121 rfl trivial ?_ rfl
  simp only [Tryz.ntmps121, List.size_toArray, List.length_cons, List.length_nil, Nat.reduceAdd, Nat.reduceSub, Array.replicate_succ, Array.replicate_zero, List.push_toArray, List.append_toArray, List.nil_append, List.cons_append]
  gi_wp2_with fail
  refine ⟨trivial, ?_⟩
  refine (callsIn_wide.2 hh).mono ?_
  rintro e w1 ⟨rfl, rfl⟩
  gi_wp2_with fail
  refine ⟨trivial, ?_⟩
  refine (callsIn_wide.2 hkc).mono ?_
  rintro e w3 ⟨sk, rfl, hown, hx3⟩
  have hrd : Rd w3 (Lt w3.heap.size) 1 sk t.2.length (ptrs h t.2) := (Rd.of_own hown).mono fun i hi => hi.2
  obtain ⟨g, cap, rfl, hbg, hnc, hcm, hfil⟩ := own_block hown (by omega)
  have hgl := hfil.lt
  have hWg : W.heap.size < g := by simp at hbg; omega
  have HRD := Lib.hid hrd
  have HX3 := Lib.hid (HX1.out.trans hx3)
  have HB3 := Lib.hid (HB1.out.ext hx3)
  have hs3 := HX3.out.size
  have hs0 := HX.out.size
  clear hown hrd hx3 hfil hkc hh HB1 HX1
  gi_wp2_with fail
  gi_loopw [19] (fun v wr => ∃ (j : Nat) (new : List LE) (C' : Nat → Prop) (Wj : World), v = .int .i64 j ∧ j ≤ t.2.length ∧ NodeS lo hi op F h t pre J C W w3 g j new C' Wj wr) (fun v _ => t.2.length - (intOf v).toNat)
  case atStart => exact ⟨0, [], C, W0, rfl, Nat.zero_le _, ⟨by rw [List.append_nil]; exact HJ.out, HX.out.trans HX3.out, rfl, HX3.out.st _, fun b hb => .inl hb, Nat.le_refl _, HB3.out, fun _ => rfl, HN.out.ext HX3.out⟩⟩
  case round =>
    obtain ⟨j, new, C', Wj, rfl, hj, hS⟩ := hrel
    have HSN := Lib.hid hS
    clear hS
    by_cases hlt : j < t.2.length
    · obtain ⟨kid, hkid⟩ : ∃ kid, t.2[j]? = some kid := ⟨_, List.getElem?_eq_getElem hlt⟩
      obtain ⟨b, o', hba, -, -, -, hbc⟩ := HRD.out.ptr_at hkid
      obtain ⟨rfl, rfl⟩ : g = b ∧ 0 = o' := by simpa using hba
      have kc : wr.cell? ⟨g, j, none⟩ = some (ptr h kid) := by rw [HSN.out.rows]; simpa using hbc
      have hjl : (j : Int) < (t.2.length : Int) := by omega
      have hkm := List.mem_of_getElem? hkid
      have hkn : NodeAt F h kid wr := ⟨HSN.out.at_.1.2.choose_spec.2.2 kid hkm, HSN.out.at_.2⟩
      have hks : Sorted (ents h kid) := kid_sorted HS.out kid hkm
      have hmid := take_mid hkid
      have hent : ents (h + 1) t = (t.2.take j).flatMap (ents h) ++ (ents h kid ++ (t.2.drop (j + 1)).flatMap (ents h)) := by
        show t.2.flatMap (ents h) = _
        conv => lhs; rw [hmid]
        simp only [List.flatMap_append, List.flatMap_cons]
      have hlk : (ents h kid).length ≤ 1000000 := by have := HL.out; rw [hent] at this; simp only [List.length_append] at this; omega
      have hsnoc : (t.2.take (j + 1)).flatMap (ents h) = (t.2.take j).flatMap (ents h) ++ ents h kid := by rw [List.take_add_one, hkid]; simp
      have HLAST := Lib.hid (fun W1 (hW : Ext wr W1) => last_any (hkn.ext hW).1)
      have HFIRST := Lib.hid (fun W1 (hW : Ext wr W1) => first_any (hkn.ext hW).1)
      have hbox := HSN.out.box
      have HSS := Lib.hid (show ∀ W1, Ext wr W1 → W1.cell? ⟨W.heap.size, 0, none⟩ = some (.string lo) ∧ W1.cell? ⟨W.heap.size, 1, none⟩ = some (.string hi) ∧ W1.cell? ⟨W.heap.size, 2, none⟩ = some (.bool op) from fun W1 hW => ⟨(hbox.ext hW).cell 0, (hbox.ext hW).cell 1, (hbox.ext hW).cell 2⟩)
      have HKN := Lib.hid hkn
      have HKS := Lib.hid hks
      have HENT := Lib.hid hent
      have HSNOC := Lib.hid hsnoc
      clear hkid hba hbc hkn hks hmid hent hsnoc hbox
      cases hlb : klt (lastK (ents h kid)) lo with
      | true =>
        have hb1 : Op.bytesLess (lastK (ents h kid)).toList lo.toList = true := hlb
        gi_wp2_with fail
        refine wpIn_wide.2 ?_
        refine wp_region_held_drew (S := (fun w' => Ext wr w')) (by kernel_rfl) (((Ext.refl wr).drew)) (fun hHeld => ?_)
        refine heldT 0 (some 24) HSS hHeld ?_
        refine heldT 2 (some 26) HSS hHeld ?_
        refine heldT 3 (some 27) HSS hHeld ?_
        refine held_call (i := 1) (by kernel_rfl) rfl (by rfl) (fun K hK => ?_)
        go_simp
        (refine (HLAST.out _ hHeld).mono ?_; rintro e w5 ⟨rfl, rfl⟩)
        refine hK.out _ _ (hHeld) (fun hHeld => ?_)
        clear hK K
        try simp only [Act.put, List.setIfInBounds_toArray, List.set_cons_zero, List.set_cons_succ]
        refine heldT 4 (some 28) HSS hHeld ?_
        refine heldT 5 (some 23) HSS hHeld ?_
        refine wpAnyH_done (by kernel_rfl) ?_ _
        have HX5 := Lib.hid hHeld
        clear hHeld
        have HS6 := Lib.hid (show NodeS lo hi op F h t pre J C W w3 g (j + 1) new C' Wj wr.drew from
          ⟨HSN.out.j_, HSN.out.ext.trans HX5.out, by rw [HSN.out.new_, HSNOC.out, rangeE_app, rangeE_below (lt_of_last HKS.out hlb), List.append_nil], HSN.out.st.ext HX5.out, HSN.out.sub, by have := HX5.out.size; have := HSN.out.big; omega, HSN.out.box.ext HX5.out, fun o => (HX5.out.cell (by have := HSN.out.big; omega)).trans (HSN.out.rows o), HSN.out.at_.ext HX5.out⟩)
        generalize wr.drew = w6 at *
        gi_wp2_with fail
        go_roundw
        case rel => exact ⟨j + 1, new, C', Wj, by go_num, hlt, HS6.out⟩
        case measure => simp [intOf]; omega
      | false =>
        have hb1 : Op.bytesLess (lastK (ents h kid)).toList lo.toList = false := hlb
        gi_wp2_with fail
        refine wpIn_wide.2 ?_
        refine wp_region_held_drew (S := (fun w' => Ext wr w')) (by kernel_rfl) (((Ext.refl wr).drew)) (fun hHeld => ?_)
        refine heldT 0 (some 24) HSS hHeld ?_
        refine heldT 2 (some 26) HSS hHeld ?_
        refine heldT 3 (some 27) HSS hHeld ?_
        refine held_call (i := 1) (by kernel_rfl) rfl (by rfl) (fun K hK => ?_)
        go_simp
        (refine (HLAST.out _ hHeld).mono ?_; rintro e w5 ⟨rfl, rfl⟩)
        refine hK.out _ _ (hHeld) (fun hHeld => ?_)
        clear hK K
        try simp only [Act.put, List.setIfInBounds_toArray, List.set_cons_zero, List.set_cons_succ]
        refine heldT 4 (some 28) HSS hHeld ?_
        refine heldT 5 (some 23) HSS hHeld ?_
        refine wpAnyH_done (by kernel_rfl) ?_ _
        cases hend : endI hi op (firstK (ents h kid)) with
        | true =>
          have HEND := Lib.hid (show ∀ W1, Calls Tryz.prog 172 #[inV lo hi op, .string (firstK (ents h kid))] W1 fun e w' => e = .returned (.bool true) ∧ Ext W1 w' from fun W1 => by have := ends_any W1 lo hi op (firstK (ents h kid)); rwa [hend] at this)
          gi_wp2_with fail
          refine wpIn_wide.2 ?_
          refine wp_region_held_drew (S := (fun w' => Ext wr w')) (by kernel_rfl) ((hHeld.drew)) (fun hHeld => ?_)
          refine heldT 0 (some 30) HSS hHeld ?_
          refine heldT 1 (some 31) HSS hHeld ?_
          refine held_call (i := 2) (by kernel_rfl) rfl (by rfl) (fun K hK => ?_)
          go_simp
          (refine (HFIRST.out _ hHeld).mono ?_; rintro e w6 ⟨rfl, rfl⟩)
          refine hK.out _ _ (hHeld) (fun hHeld => ?_)
          clear hK K
          try simp only [Act.put, List.setIfInBounds_toArray, List.set_cons_zero, List.set_cons_succ]
          refine held_call (i := 3) (by kernel_rfl) rfl (by rfl) (fun K hK => ?_)
          go_simp
          (refine (HEND.out _).mono ?_; rintro e w7 ⟨rfl, hx7⟩)
          refine hK.out _ _ (hHeld.trans hx7) (fun hHeld => ?_)
          clear hK K
          try simp only [Act.put, List.setIfInBounds_toArray, List.set_cons_zero, List.set_cons_succ]
          refine heldT 4 (some 29) HSS hHeld ?_
          refine wpAnyH_done (by kernel_rfl) ?_ _
          have HX7 := Lib.hid hHeld
          clear hHeld hx7
          gi_wp2_with fail
          go_ret
          have hne0 := kid_ne HOK.out hkm
          obtain ⟨x, hxm⟩ := List.exists_mem_of_ne_nil _ hne0
          have hxe := end_of_first HKS.out hend x hxm
          refine .inl ⟨new, C', Wj, .inr ⟨rfl, x, by rw [HENT.out]; simp [hxm], hxe⟩, HSN.out.j_, HSN.out.ext.trans HX7.out, ?_, HSN.out.st.ext HX7.out, fun b hb => (HSN.out.sub b hb).imp_right fun h => by omega⟩
          have hsd := HS.out
          rw [HENT.out] at hsd
          rw [HSN.out.new_, HENT.out, rangeE_app, rangeE_app, rangeE_above (end_of_first HKS.out hend), rangeE_behind (A := ents h kid) (sorted_app hsd).2.1 ⟨x, hxm, hxe⟩, List.append_nil, List.append_nil]
        | false =>
          have HEND := Lib.hid (show ∀ W1, Calls Tryz.prog 172 #[inV lo hi op, .string (firstK (ents h kid))] W1 fun e w' => e = .returned (.bool false) ∧ Ext W1 w' from fun W1 => by have := ends_any W1 lo hi op (firstK (ents h kid)); rwa [hend] at this)
          gi_wp2_with fail
          refine wpIn_wide.2 ?_
          refine wp_region_held_drew (S := (fun w' => Ext wr w')) (by kernel_rfl) ((hHeld.drew)) (fun hHeld => ?_)
          refine heldT 0 (some 30) HSS hHeld ?_
          refine heldT 1 (some 31) HSS hHeld ?_
          refine held_call (i := 2) (by kernel_rfl) rfl (by rfl) (fun K hK => ?_)
          go_simp
          (refine (HFIRST.out _ hHeld).mono ?_; rintro e w6 ⟨rfl, rfl⟩)
          refine hK.out _ _ (hHeld) (fun hHeld => ?_)
          clear hK K
          try simp only [Act.put, List.setIfInBounds_toArray, List.set_cons_zero, List.set_cons_succ]
          refine held_call (i := 3) (by kernel_rfl) rfl (by rfl) (fun K hK => ?_)
          go_simp
          (refine (HEND.out _).mono ?_; rintro e w7 ⟨rfl, hx7⟩)
          refine hK.out _ _ (hHeld.trans hx7) (fun hHeld => ?_)
          clear hK K
          try simp only [Act.put, List.setIfInBounds_toArray, List.set_cons_zero, List.set_cons_succ]
          refine heldT 4 (some 29) HSS hHeld ?_
          refine wpAnyH_done (by kernel_rfl) ?_ _
          have HX7 := Lib.hid hHeld
          obtain ⟨q0, q1, q2⟩ := HSS.out w7 hHeld
          have hFC : ∀ b, F b → ¬ C' b := fun b hb h => by
            rcases HSN.out.sub b h with h | h
            · exact HF.out b hb h
            · have := (HN.out.2 b hb); omega
          have hic := HIH.out kid (pre ++ new) (rangeE lo hi op ((t.2.drop (j + 1)).flatMap (ents h)) ++ rest) C' Wj w7 HSN.out.j_ (HSN.out.ext.trans HX7.out) (HKN.out.ext HX7.out) hFC (HOK.out.2.2 kid hkm).1 HKS.out hlk (by
            rw [HALL.out, HENT.out, List.map_append, HSN.out.new_, rangeE_app, rangeE_app]
            simp only [List.append_assoc])
          have HIC := Lib.hid hic
          have hs7 := HX7.out.size
          clear hHeld hx7 hFC hic
          gi_wp2_with fail
          refine ⟨trivial, ?_⟩
          refine (callsIn_wide.2 HIC.out).mono ?_
          rintro e w8 (⟨new', C8, W8, hb8, hj8, hx8, hn8, hst8, hsub8⟩ | ⟨rfl, hst8, pre', W8, hj8, hx8, hp8⟩)
          · have hst : St C W w8 := (HSN.out.st.ext HX7.out).then hst8 fun b hb h => by
              rcases HSN.out.sub b h with h | h
              · exact h
              · omega
            have hsub : ∀ b, C8 b → C b ∨ w3.heap.size ≤ b := fun b hb => by
              rcases hsub8 b hb with h | h
              · exact HSN.out.sub b h
              · exact .inr (by have := HSN.out.big; omega)
            have hj8' : J (pre ++ (new ++ new')) C8 W8 := by rw [← List.append_assoc]; exact hj8
            have hn8' : (new ++ new').map LE.ent = rangeE lo hi op ((t.2.take (j + 1)).flatMap (ents h)) := by rw [List.map_append, HSN.out.new_, hn8, HSNOC.out, rangeE_app]
            rcases hb8 with rfl | ⟨rfl, x, hxm, hxe⟩
            · have hnC : ∀ b, b < w3.heap.size → W.heap.size ≤ b → ¬ C' b := fun b h1 h2 h => by
                rcases HSN.out.sub b h with h | h
                · have := HCL.out b h; omega
                · omega
              have HS8 := Lib.hid (show NodeS lo hi op F h t pre J C W w3 g (j + 1) (new ++ new') C8 W8 w8 from
                ⟨hj8', hx8, hn8', hst, hsub, by have := hst8.size; have := HSN.out.big; omega, hst8.blk (HSN.out.box.ext HX7.out) (hnC _ (by omega) (Nat.le_refl _)),
                  fun o => (hst8.cell (by have := HSN.out.big; omega) (hnC _ hgl (by omega))).trans ((HX7.out.cell (by have := HSN.out.big; omega)).trans (HSN.out.rows o)),
                  ⟨(HSN.out.at_.ext HX7.out).1.agree (hst8.agree.mono fun b hb => ⟨by have := (HSN.out.at_.ext HX7.out).2 b hb; omega, fun h => by
                    rcases HSN.out.sub b h with h | h
                    · exact HF.out b hb h
                    · have := (HN.out.2 b hb); omega⟩), fun b hb => by have := hst8.size; have := HN.out.2 b hb; have := HSN.out.big; omega⟩⟩)
              clear hst hsub hj8' hn8' hj8 hx8 hn8 hst8 hsub8 hnC
              gi_wp2_with fail
              go_roundw
              case rel => exact ⟨j + 1, _, C8, W8, by go_num, hlt, HS8.out⟩
              case measure => simp [intOf]; omega
            · clear hst8 hsub8 hn8 hj8
              gi_wp2_with fail
              go_ret
              refine .inl ⟨new ++ new', C8, W8, .inr ⟨rfl, x, by rw [HENT.out]; simp [hxm], hxe⟩, hj8', hx8, ?_, hst, fun b hb => (hsub b hb).imp_right fun h => by omega⟩
              have hsd := HS.out
              rw [HENT.out] at hsd
              rw [hn8', HSNOC.out, HENT.out, rangeE_app, rangeE_app, rangeE_app, rangeE_behind (A := ents h kid) (sorted_app hsd).2.1 ⟨x, hxm, hxe⟩, List.append_nil]
          · gi_wp2_with fail
            go_ret
            exact .inr ⟨rfl, (HSN.out.st.ext HX7.out).then hst8 (fun b hb h => by
              rcases HSN.out.sub b h with h | h
              · exact h
              · omega), pre', W8, hj8, hx8, hp8⟩
    · obtain rfl : j = t.2.length := by omega
      gi_wp2_with fail
      go_ret
      refine .inl ⟨new, C', Wj, .inl rfl, HSN.out.j_, HSN.out.ext, ?_, HSN.out.st, fun b hb => (HSN.out.sub b hb).imp_right fun h => by omega⟩
      rw [HSN.out.new_, List.take_length]; rfl
theorem walk_any {F : Nat → Prop} {lo hi : ByteArray} {op : Bool} {all : List Ent} {l : Nat} {J : List LE → (Nat → Prop) → World → Prop} {Jx : List LE → World → Prop} (hT : Takes Tryz.prog l encE (ScanG all) J Jx) :
    ∀ (h : Nat) (t : PT h) (pre : List LE) (rest : List Ent) (C : Nat → Prop) (W0 W : World), J pre C W0 → Ext W0 W → NodeAt F h t W → (∀ b, F b → ¬ C b) → OkT h t → Sorted (ents h t) → (ents h t).length ≤ 1000000 → all = pre.map LE.ent ++ (rangeE lo hi op (ents h t) ++ rest) →
      Calls Tryz.prog 121 #[ptr h t, inV lo hi op, .func (.yield l) #[] #[]] W (WalkPost lo hi op (ents h t) all pre J Jx C W)
  | 0, t, pre, rest, C, W0, W, hJ, hx, hn, hF, ok, hs, _, hall =>
    walk_leaf (F := F) (leafC_node ok hs) (fun W W' a ha hz => ⟨a.1.agree ha, fun b hb => Nat.lt_of_lt_of_le (a.2 b hb) hz⟩) (keys_small hn.1) hT hJ hx hn (fun b hb => ⟨hn.2 b hb, hF b hb⟩) hall
  | h + 1, t, pre, rest, C, W0, W, hJ, hx, hn, hF, ok, hs, hl, hall =>
    walk_succ hT (fun t pre rest C W0 W a b c d e f g i => walk_any hT h t pre rest C W0 W a b c d e f g i) hJ hx hn hF ok hs hl hall
theorem walkR_any {F : Nat → Prop} {lo hi : ByteArray} {op : Bool} {l : Nat} {J : List LE → (Nat → Prop) → World → Prop} {Jx : List LE → World → Prop} {T : RT} (hT : Takes Tryz.prog l encE (ScanG (rangeE lo hi op (entsT T))) J Jx)
    {C : Nat → Prop} {W0 W : World} (hJ : J [] C W0) (hx : Ext W0 W) (hn : TreeAt F T W) (hF : ∀ b, F b → ¬ C b) (ok : OkR T) (hl : (entsT T).length ≤ 1000000) :
    Calls Tryz.prog 121 #[rootV T, inV lo hi op, .func (.yield l) #[] #[]] W (WalkPost lo hi op (entsT T) (rangeE lo hi op (entsT T)) [] J Jx C W) := by
  match T, hn, ok, hl with
  | none, _, _, _ => exact walk_leaf (F := fun _ => False) (rest := []) leafC_nil (fun _ _ _ _ _ => trivial) (fun e he => by cases he) hT hJ hx trivial (fun b hb => hb.elim) (by simp [entsT])
  | some ⟨h, t⟩, hn, ok, hl => exact walk_any hT h t [] [] C W0 W hJ hx hn hF ok.1 ok.2.2 hl (by simp [entsT])
end Go.Proofs.YtechahocffcbpaaGreatDoor
namespace Go.Proofs.YtechahocffcbpaaGreatDoor
open Go.RowKit Go.Shelf
set_option linter.unusedVariables false
set_option linter.unusedSimpArgs false
structure RangeB (w : World) (B : Nat) (T : RT) (lo hi : ByteArray) (op : Bool) : Prop where
  bt : Blk w B 25 #[rootV T]
  bl : Blk w (B + 1) 9 #[.string lo]
  bh : Blk w (B + 2) 9 #[.string hi]
  bo : Blk w (B + 3) 4 #[.bool op]
def RangeK (F : Nat → Prop) (B : Nat) (b : Nat) : Prop := F b ∨ (B ≤ b ∧ b < B + 4)
abbrev rangeL (B : Nat) : Array Value := #[.pointer (some ⟨B, 0, none⟩), .pointer (some ⟨B + 1, 0, none⟩), .pointer (some ⟨B + 2, 0, none⟩), .pointer (some ⟨B + 3, 0, none⟩)]
theorem RangeB.agree {w w' : World} {B : Nat} {T : RT} {lo hi : ByteArray} {op : Bool} (h : RangeB w B T lo hi op) {F : Nat → Prop} (ha : Agree F w w') (hF : ∀ b, B ≤ b → b < B + 4 → F b) : RangeB w' B T lo hi op :=
  ⟨h.bt.agree ha (hF _ (by omega) (by omega)), h.bl.agree ha (hF _ (by omega) (by omega)), h.bh.agree ha (hF _ (by omega) (by omega)), h.bo.agree ha (hF _ (by omega) (by omega))⟩
theorem RangeB.lt {w : World} {B : Nat} {T : RT} {lo hi : ByteArray} {op : Bool} (h : RangeB w B T lo hi op) : B + 3 < w.heap.size := h.bo.lt
theorem WalkPost.st {lo hi : ByteArray} {op : Bool} {es all : List Ent} {pre : List LE} {J : List LE → (Nat → Prop) → World → Prop} {Jx : List LE → World → Prop} {C : Nat → Prop} {W : World} {e : Ending} {W' : World} (h : WalkPost lo hi op es all pre J Jx C W e W') : St C W W' := by
  rcases h with ⟨_, _, _, _, _, _, _, h5, _⟩ | ⟨_, h5, _⟩ <;> exact h5
theorem range_seq {w0 : World} {F : Nat → Prop} {T : RT} {B : Nat} {lo hi : ByteArray} {op : Bool} (hT : TreeAt F T w0) (ok : OkR T) (hl : (entsT T).length ≤ 1000000) (hB : RangeB w0 B T lo hi op) :
    SeqC Tryz.prog 120 (rangeL B) encE (RangeK F B) (ScanG (rangeE lo hi op (entsT T))) (fun xs => xs.map LE.ent = rangeE lo hi op (entsT T)) (fun pre => pre.map LE.ent <+: rangeE lo hi op (entsT T)) w0 := by
  intro l J Jx C W hTk hA hsz hCK hJ
  have hBW : RangeB W B T lo hi op := hB.agree hA fun b h1 h2 => .inr ⟨h1, h2⟩
  have hTW : TreeAt F T W := ⟨hT.1.agree (hA.mono fun b hb => .inl hb), fun b hb => Nat.lt_of_lt_of_le (hT.2 b hb) hsz⟩
  have hwk := fun W1 (hW : Ext W W1) => walkR_any hTk hJ hW (hTW.ext hW) (fun b hb h => hCK b h (.inl hb)) ok hl
  have hCl := hTk.lt [] C W hJ
  obtain ⟨p, hp⟩ := rootV_ptr T
  rw [hp] at hwk
  have hbt := hBW.bt
  rw [hp] at hbt
  have HSS := Lib.hid (show ∀ W1, St C W W1 → W1.cell? ⟨B, 0, none⟩ = some (.pointer p) ∧ W1.cell? ⟨B + 1, 0, none⟩ = some (.string lo) ∧ W1.cell? ⟨B + 2, 0, none⟩ = some (.string hi) ∧ W1.cell? ⟨B + 3, 0, none⟩ = some (.bool op) from fun W1 hW =>
    ⟨(hW.blk hbt fun h => hCK _ h (.inr ⟨by omega, by omega⟩)).cell 0, (hW.blk hBW.bl fun h => hCK _ h (.inr ⟨by omega, by omega⟩)).cell 0, (hW.blk hBW.bh fun h => hCK _ h (.inr ⟨by omega, by omega⟩)).cell 0, (hW.blk hBW.bo fun h => hCK _ h (.inr ⟨by omega, by omega⟩)).cell 0⟩)
  have HWK := Lib.hid hwk
  clear hTk hA hsz hCK hJ hBW hTW hwk hp hT ok hl hB hbt hCl
  show Calls _ _ #[.func (.yield l) #[] #[], .pointer (some ⟨B, 0, none⟩), .pointer (some ⟨B + 1, 0, none⟩), .pointer (some ⟨B + 2, 0, none⟩), .pointer (some ⟨B + 3, 0, none⟩)] W _
  go_enter Tryz.func120, Tryz.ntmps120
  go_wp2_with fail
  refine wp_region_held_drew (S := (fun w' => St C W w')) (by kernel_rfl) (((St.refl C W).drew)) (fun hHeld => ?_)
  refine heldT 0 (some 6) HSS hHeld ?_
  refine heldT 2 (some 8) HSS hHeld ?_
  refine heldT 3 (some 9) HSS hHeld ?_
  refine heldT 4 (some 10) HSS hHeld ?_
  refine heldT 5 (some 11) HSS hHeld ?_
  refine heldT 6 (some 12) HSS hHeld ?_
  refine held_call (i := 1) (by kernel_rfl) rfl (by rfl) (fun K hK => ?_)
  go_simp
  (refine (treeRoot_any _ _).mono ?_; rintro e w1 ⟨rfl, hx1⟩; replace hx1 := ((Ext.refl W).drew).trans hx1; have HX1 := Lib.hid hx1)
  refine hK.out _ _ (hx1.st C) (fun hHeld => ?_)
  clear hK K
  try simp only [Act.put, List.setIfInBounds_toArray, List.set_cons_zero, List.set_cons_succ]
  refine held_call (i := 7) (by kernel_rfl) rfl (by rfl) (fun K hK => ?_)
  go_simp
  (refine (HWK.out _ HX1.out).mono ?_; intro e w2 hp2; obtain ⟨b2, rfl⟩ := hp2.bool; have HP2 := Lib.hid (hp2.from HX1.out); clear hp2)
  refine hK.out _ _ (HP2.out.st) (fun hHeld => ?_)
  clear hK K
  try simp only [Act.put, List.setIfInBounds_toArray, List.set_cons_zero, List.set_cons_succ]
  refine wpAnyH_done (by kernel_rfl) ?_ _
  go_wp2_with fail
  go_end0
  refine ⟨⟨_, rfl⟩, ?_⟩
  rcases HP2.out with ⟨new, C', W0, -, h2, h3, h4, -, -⟩ | ⟨-, -, pre', W0, h2, h3, h4⟩
  · exact .inl ⟨new, C', W0, h4, h2, h3⟩
  · exact .inr ⟨pre', W0, h4, h2, h3⟩
def RangePost (T : RT) (lo hi : ByteArray) (op : Bool) (w : World) (e : Ending) (w' : World) : Prop :=
  ∃ B, e = .returned (.func (.func 120) #[] (rangeL B)) ∧ Ext w w' ∧ RangeB w' B T lo hi op ∧ w.heap.size ≤ B
theorem range_any (w : World) (T : RT) (lo hi : ByteArray) (op : Bool) : Calls Tryz.prog 81 #[treeV T, .string lo, .string hi, .bool op] w (RangePost T lo hi op w) := by
  obtain ⟨p, hp⟩ := rootV_ptr T
  rw [treeV, hp]
  go_enter Tryz.func81, Tryz.ntmps81
  go_wp2_with fail
  go_ret
  obtain ⟨hx, -, b0, b1, b2, b3⟩ := four_blocks w 25 9 9 4 #[.pointer p] #[.string lo] #[.string hi] #[.bool op] _ rfl
  exact ⟨w.heap.size, rfl, hx, ⟨by rw [hp]; exact b0, b1, b2, b3⟩, Nat.le_refl _⟩
end Go.Proofs.YtechahocffcbpaaGreatDoor
namespace Go.Proofs.YtechahocffcbpaaGreatDoor
open Go.RowKit
set_option linter.unusedVariables false
set_option linter.unusedSimpArgs false
theorem Bw.trans {a b c : World} (h : Below a.heap.size a b) (k : Below b.heap.size b c) : Below a.heap.size a c := h.trans (k.mono h.size)
theorem Bw.ext {a b c : World} (h : Below a.heap.size a b) (k : Ext b c) : Below a.heap.size a c := Bw.trans h k.below
theorem toList_eq' (p : ByteArray) : p.toList = p.data.toList := ByteArray.toList_eq p
theorem size_toList (p : ByteArray) : p.toList.length = p.size := by rw [toList_eq', Array.length_toList]; rfl
theorem at_toList {p : ByteArray} {i : Nat} (h : i < p.size) : p.toList[i]? = some p[i] := by
  rw [toList_eq', Array.getElem?_toList]
  exact Array.getElem?_eq_getElem h
def EndPost (p : ByteArray) (w : World) (e : Ending) (w' : World) : Prop :=
  Below w.heap.size w w' ∧ ∃ (end_ : ByteArray) (ok : Bool), e = .returned (.tuple #[.string end_, .bool ok]) ∧ (match endL p.toList with | none => ok = false ∧ end_ = ByteArray.empty | some q => ok = true ∧ end_.toList = q)
theorem mk_toList (l : List UInt8) : (ByteArray.mk l.toArray).toList = l := by rw [toList_eq']
theorem split_last {p : ByteArray} {i n : Nat} (h : i < p.size) (hr : p.toList.drop (i + 1) = List.replicate n 255) : p.toList = p.toList.take i ++ p[i] :: List.replicate n 255 := by
  have h1 := at_toList h
  obtain ⟨h2, h3⟩ := List.getElem?_eq_some_iff.1 h1
  conv => lhs; rw [← List.take_append_drop i p.toList, List.drop_eq_getElem_cons h2, h3, hr]
theorem extract_toList (p : ByteArray) (k : Nat) : (p.extract 0 k).toList = p.toList.take k := by
  rw [toList_eq', toList_eq', ByteArray.data_extract]
  simp
theorem bytesRow_at {s : ByteArray} {cap i : Nat} {b : UInt8} (h : s.toList[i]? = some b) : (bytesRow s cap)[i]? = some (.int .u8 (b.toNat : Int)) := by
  rw [toList_eq', Array.getElem?_toList] at h
  have hi := (Array.getElem?_eq_some_iff.1 h).1
  unfold bytesRow
  rw [Array.getElem?_append_left (by simpa using hi), Array.getElem?_map, h]; rfl
theorem bytesRow_size (s : ByteArray) (cap : Nat) : s.size ≤ (bytesRow s cap).size := by
  unfold bytesRow
  rw [Array.size_append, Array.size_map]
  exact Nat.le_add_right _ _
theorem bytes_laid (w : World) (s : ByteArray) (cap : Nat) (t : TypeId) {i : Nat} {b c : UInt8} (hb : s.toList[i]? = some b) (W : World) (hW : W = (w.alloc (.cells (bytesRow s cap) t ((bytesRow s cap).size, (bytesRow s cap).size + 1))).drew) :
    W.cell? ⟨w.heap.size, i, none⟩ = some (.int .u8 (b.toNat : Int)) ∧ W.frozen? ⟨w.heap.size, i, none⟩ = false ∧ w.heap.size < W.heap.size ∧ Below w.heap.size w W ∧
      ∀ j (x : UInt8), (s.toList.set i c)[j]? = some x → (W.setCell ⟨w.heap.size, i, none⟩ (.int .u8 (c.toNat : Int))).cell? ⟨w.heap.size, j, none⟩ = some (.int .u8 (x.toNat : Int)) := by
  have hr : ∀ j, W.cell? ⟨w.heap.size, j, none⟩ = (bytesRow s cap)[j]? := fun j => by
    rw [hW]; exact World.cell?_alloc_mark w _ _ _ j
  have hi : i < s.size := by
    have := (List.getElem?_eq_some_iff.1 hb).1
    rwa [size_toList] at this
  have hh : W.heap[w.heap.size]? = some (.cells (bytesRow s cap) t ((bytesRow s cap).size, (bytesRow s cap).size + 1)) := by
    rw [hW]; exact heap_alloc_new w _
  refine ⟨by rw [hr]; exact bytesRow_at hb, ?_, by rw [hW]; show w.heap.size < (w.alloc _).heap.size; rw [World.size_alloc]; exact Nat.lt_succ_self _, by rw [hW]; exact ((Below.refl _ w).alloc (Nat.le_refl _) _).drew, fun j x hx => ?_⟩
  · unfold World.frozen?
    rw [hh]
    have := bytesRow_size s cap
    simp; omega
  · by_cases hj : j = i
    · subst hj
      rw [List.getElem?_set_self (List.getElem?_eq_some_iff.1 hb).1] at hx
      cases hx
      exact World.cell?_setCell_same W _ _ ((hr j).trans (bytesRow_at hb))
    · rw [List.getElem?_set_ne (fun e => hj e.symm)] at hx
      rw [cell_set_other _ _ _ _ _ (fun e => hj e.symm), hr]
      exact bytesRow_at hx
theorem keysEnd_any (w : World) (p : ByteArray) (hp : p.size ≤ maxLen) : Calls Tryz.prog 80 #[.string p] w (EndPost p w) := by
  unfold maxLen at hp
  have hcv : ∀ (s : ByteArray) (W : World), (convert 9 140 (.string s)).run Tryz.prog W = .ok (.slice (some ⟨W.heap.size, 0, none⟩) s.size (grownCap W s.size 0 5)) (W.drew.alloc (.cells (bytesRow s (grownCap W s.size 0 5)) 5 ((bytesRow s (grownCap W s.size 0 5)).size, (bytesRow s (grownCap W s.size 0 5)).size + 1))) :=
    fun s W => run_bytes_of_string W 9 140 5 s Tryz.underlying9 Tryz.underlying140 Tryz.underlying5
  have hw0 : wrap64 ((p.size : Int) - 1) = (p.size : Int) - 1 := by unfold wrap64; omega
  go_enter Tryz.func80, Tryz.ntmps80
  go_wp2_with fail
  go_step3
  go_wp2_with fail
  go_step3
  go_wp2_with fail
  go_loopw [4] (fun v wr => wr = w ∧ ((v = .int .i64 (-1) ∧ endL p.toList = none) ∨ ∃ i, i < p.size ∧ v = .int .i64 (i : Int) ∧ p.toList.drop (i + 1) = List.replicate (p.size - (i + 1)) 255)) (fun v _ => (intOf v + 1).toNat)
  case atStart =>
    refine ⟨rfl, ?_⟩
    by_cases h0 : p.size = 0
    · refine .inl ⟨by rw [h0]; rfl, ?_⟩
      have : p.toList = [] := List.eq_nil_of_length_eq_zero (by rw [size_toList]; exact h0)
      rw [this]; rfl
    · refine .inr ⟨p.size - 1, by omega, by congr 1; omega, ?_⟩
      rw [List.drop_eq_nil_of_le (by rw [size_toList]; omega), show p.size - (p.size - 1 + 1) = 0 from by omega]; rfl
  case round =>
    obtain ⟨rfl, ⟨rfl, hn⟩ | ⟨i, hi, rfl, hr⟩⟩ := hrel
    · have HN := Lib.hid hn
      clear hn
      go_wp2_with fail
      rw [Exit.noGoto_ret]
      refine bodyPost_ret (v := .tuple #[.string ByteArray.empty, .bool false]) (by simp [results, Tryz.results80, go_sem]; rfl) rfl ?_
      exact ⟨Below.refl _ _, ByteArray.empty, false, rfl, by rw [HN.out]; exact ⟨rfl, rfl⟩⟩
    · have hi' : (i : Int) < (p.size : Int) := by omega
      have hi0 : (0 : Int) ≤ (i : Int) := by omega
      have hsp := split_last hi hr
      have HSP := Lib.hid hsp
      have HR := Lib.hid hr
      have hw1 : wrap64 ((i : Int) - 1) = (i : Int) - 1 := by unfold wrap64; omega
      clear hsp hr
      by_cases hff : p[i] = 255
      · have hb1 : (((p[i].toNat : Nat) : Int) != 255) = false := by rw [hff]; rfl
        go_wp2_with fail
        go_roundw
        case rel =>
          refine ⟨trivial, ?_⟩
          cases i with
          | zero =>
            refine .inl ⟨rfl, ?_⟩
            rw [HSP.out, hff, List.take_zero, List.nil_append, ← List.replicate_succ]
            exact endL_ff _
          | succ i =>
            refine .inr ⟨i, by omega, by simp, ?_⟩
            have h2 : p.toList.drop (i + 1) = p[i + 1] :: p.toList.drop (i + 1 + 1) := by
              have h1 := at_toList hi
              obtain ⟨h2, h3⟩ := List.getElem?_eq_some_iff.1 h1
              rw [List.drop_eq_getElem_cons h2, h3]
            rw [h2, HR.out, hff, ← List.replicate_succ]
            congr 1; omega
        case measure => simp [intOf]
      · have hb1 : (((p[i].toNat : Nat) : Int) != 255) = true := bne_iff_ne.2 fun e => hff (UInt8.toNat_inj.1 (by show p[i].toNat = 255; omega))
        have hmin : min (i + 1) p.size = i + 1 := by omega
        have hexs : (p.extract 0 (i + 1)).size = i + 1 := by rw [← size_toList, extract_toList, List.length_take, size_toList]; omega
        have hlt256 : p[i].toNat < 256 := p[i].toNat_lt
        have hw8 : IntKind.u8.wrap ((p[i].toNat : Int) + 1) = (p[i].toNat : Int) + 1 := by
          have : p[i].toNat ≠ 255 := fun e => hff (UInt8.toNat_inj.1 e)
          rw [IntKind.wrap_u8]; omega
        obtain ⟨q, hq⟩ : ∃ q, q = (p.extract 0 (i + 1)).toList.set i (p[i] + 1) := ⟨_, rfl⟩
        have hext : (p.extract 0 (i + 1)).toList = p.toList.take i ++ [p[i]] := by
          rw [extract_toList, List.take_add_one, at_toList hi]; rfl
        have htl : (p.toList.take i).length = i := by rw [List.length_take, size_toList]; omega
        have hqe : q = p.toList.take i ++ [p[i] + 1] := by
          rw [hq, hext, List.set_append_right _ _ (by omega), htl, Nat.sub_self]; rfl
        have hql : q.length = i + 1 := by rw [hqe, List.length_append, htl]; rfl
        have hend : endL p.toList = some q := by rw [HSP.out, endL_at hff, hqe]
        have hib : (p.extract 0 (i + 1)).toList[i]? = some p[i] := by rw [hext, List.getElem?_append_right (by omega), htl, Nat.sub_self]; rfl
        have hbn : ((p[i] + 1).toNat : Int) = (p[i].toNat : Int) + 1 := by
          have h1 : (p[i] + 1).toNat = p[i].toNat + 1 := by
            rw [UInt8.toNat_add]
            have : p[i].toNat ≠ 255 := fun e => hff (UInt8.toNat_inj.1 e)
            show (p[i].toNat + 1) % 256 = _
            omega
          omega
        have hcb : ∀ W : World, (∀ j (hj : j < q.length), W.cell? ((⟨wr.heap.size, 0, none⟩ : Addr).add j) = some (.int .u8 (q[j].toNat : Int))) → ∀ cap, (convert 140 9 (.slice (some ⟨wr.heap.size, 0, none⟩) (i + 1) cap)).run Tryz.prog W = .ok (.string ⟨q.toArray⟩) W := fun W h cap => by
          have := run_convert_bytes_back (P := Tryz.prog) W 140 9 5 ⟨wr.heap.size, 0, none⟩ cap q Tryz.underlying140 Tryz.underlying5 Tryz.underlying9 h
          rwa [hql] at this
        have HCB := Lib.hid hcb
        have HEND := Lib.hid hend
        have HQ := Lib.hid hq
        have HIB := Lib.hid hib
        have HBN := Lib.hid hbn
        clear hq hext htl hqe hql hend hib hbn hcb
        go_upto_region 8 with (fail)
        generalize hW2 : World.drew _ = W2
        obtain ⟨c2, f2, l2, hbl2, hset⟩ := bytes_laid wr (p.extract 0 (i + 1)) _ _ (c := p[i] + 1) HIB.out W2 hW2.symm
        rw [HBN.out, ← HQ.out] at hset
        have HS2 := Lib.hid hset
        have HBL := Lib.hid hbl2
        clear hW2 hset hbl2 hcv
        go_upto_region 9 with (fail)
        have hcb := HCB.out (W2.setCell ⟨wr.heap.size, i, none⟩ (.int .u8 ((p[i].toNat : Int) + 1))) (fun j hj => by
          rw [add_at, Nat.zero_add]
          exact HS2.out j _ (List.getElem?_eq_getElem hj))
        go_wp2_with fail
        rw [Exit.noGoto_ret]
        refine bodyPost_ret (v := .tuple #[.string ⟨q.toArray⟩, .bool true]) (by simp [results, Tryz.results80, go_sem]) rfl ?_
        exact ⟨HBL.out.setCell (p := ⟨wr.heap.size, i, none⟩) (Nat.le_refl _) _, _, _, rfl, by rw [HEND.out]; exact ⟨rfl, mk_toList q⟩⟩
end Go.Proofs.YtechahocffcbpaaGreatDoor
namespace Go.Proofs.YtechahocffcbpaaGreatDoor
open Go.RowKit Go.Shelf
set_option linter.unusedVariables false
set_option linter.unusedSimpArgs false
def prefixE (p : ByteArray) (es : List Ent) : List Ent := es.filter fun e => p.toList.isPrefixOf e.1.toList
theorem EndPost.range {p : ByteArray} {w : World} {e : Ending} {w' : World} (h : EndPost p w e w') : ∃ (en : ByteArray) (ok : Bool), e = .returned (.tuple #[.string en, .bool ok]) ∧ Below w.heap.size w w' ∧ ∀ es, rangeE p en (!ok) es = prefixE p es := by
  obtain ⟨hb, en, ok, he, hm⟩ := h
  refine ⟨en, ok, he, hb, fun es => ?_⟩
  refine List.filter_congr fun x _ => ?_
  rw [begins_iff]
  cases hE : endL p.toList with
  | none =>
    rw [hE] at hm
    obtain ⟨rfl, -⟩ := hm
    rfl
  | some q =>
    rw [hE] at hm
    obtain ⟨rfl, hq⟩ := hm
    simp only [inI, Bool.not_true, Bool.false_or, klt, hq]
def PrefixPost (T : RT) (p : ByteArray) (w : World) (e : Ending) (w' : World) : Prop :=
  ∃ (B : Nat) (en : ByteArray) (op : Bool), e = .returned (.func (.func 120) #[] (rangeL B)) ∧ Below w.heap.size w w' ∧ RangeB w' B T p en op ∧ w.heap.size ≤ B ∧ ∀ es, rangeE p en op es = prefixE p es
theorem prefix_any (w : World) (T : RT) (p : ByteArray) (hp : p.size ≤ maxLen) : Calls Tryz.prog 47 #[treeV T, .string p] w (PrefixPost T p w) := by
  have hr := fun W lo hi op => range_any W T lo hi op
  have hke := fun W => keysEnd_any W p hp
  obtain ⟨r, hpr⟩ := rootV_ptr T
  rw [treeV, hpr]
  simp only [treeV, hpr] at hr
  have hx0 : Ext w (w.alloc (.cells #[.pointer r] 25)) := (Ext.refl w).alloc _ _
  have hb0 := Blk.new w 25 #[.pointer r]
  have HX0 := Lib.hid hx0
  have HB0 := Lib.hid hb0
  have HR := Lib.hid hr
  have HKE := Lib.hid hke
  clear hx0 hb0 hr hpr hke
  go_enter Tryz.func47, Tryz.ntmps47
  go_wp2_with fail
  refine (HKE.out _).mono ?_
  intro e w1 he
  obtain ⟨en, ok, rfl, hb1, hen⟩ := he.range
  have hbw := Bw.trans HX0.out.below hb1
  have c0 : w1.cell? ⟨w.heap.size, 0, none⟩ = some (.pointer r) := (HB0.out.agree (Agree.of_below hb1 (F := Lt (w.alloc (.cells #[.pointer r] 25)).heap.size) fun _ h => h) HB0.out.lt).cell 0
  have HBW := Lib.hid hbw
  have HEN := Lib.hid hen
  clear he hb1 hen hbw
  go_wp2_with fail
  refine (HR.out _ _ _ _).mono ?_
  rintro e w2 ⟨B, rfl, hx2, hrb, hB⟩
  have HP := Lib.hid (show Below w.heap.size w w2 ∧ RangeB w2 B T p en (!ok) ∧ w.heap.size ≤ B from ⟨Bw.ext HBW.out hx2, hrb, Nat.le_trans HBW.out.size hB⟩)
  clear hx2 hrb hB
  go_wp2_with fail
  go_ret
  exact ⟨B, en, !ok, rfl, HP.out.1, HP.out.2.1, HP.out.2.2, HEN.out⟩
end Go.Proofs.YtechahocffcbpaaGreatDoor
namespace Go.Proofs.YtechahocffcbpaaGreatDoor
open Go.RowKit
set_option linter.unusedVariables false
set_option linter.unusedSimpArgs false
def num8 (n : Int) : Val := .mk 3 false n ByteArray.empty [] [] []
def e5 : List Ent := [(⟨#[97]⟩, num8 1), (⟨#[98]⟩, num8 3), (⟨#[98, 47, 49]⟩, num8 4), (⟨#[98, 47, 50]⟩, num8 0), (⟨#[99]⟩, num8 2)]
theorem Bw.tree {w w' : World} {T : RT} (h : TreeAt (Lt w.heap.size) T w) (k : Below w.heap.size w w') : TreeAt (Lt w.heap.size) T w' := ⟨h.1.agree (Agree.of_below k (F := Lt w.heap.size) fun _ h => h), fun b hb => Nat.lt_of_lt_of_le hb k.size⟩
theorem Bw.blk {w w' : World} {g : Nat} {t : TypeId} {cs : Array Value} (h : Blk w g t cs) (k : Below w.heap.size w w') : Blk w' g t cs := h.agree (Agree.of_below k (F := Lt w.heap.size) fun _ h => h) h.lt
theorem ES.part {w : World} {F : Nat → Prop} {b o c : Nat} {xs : List LE} (h : ES w F ⟨some ⟨b, o, none⟩, c⟩ xs) {i n : Nat} (hn : i + n ≤ xs.length) (h0 : 0 < n) : ES w F ⟨some ⟨b, o + i * 7, none⟩, c - i⟩ ((xs.drop i).take n) := by
  obtain ⟨⟨b', o', h1, h2, h3⟩, hv, hf⟩ := h
  obtain ⟨e1, e2, e3⟩ := h1.eq (by omega)
  have hF := h1.fits (by omega)
  obtain ⟨rfl, rfl⟩ : b = b' ∧ o = o' := by simpa using e1
  have hl : ((xs.drop i).take n).length = n := by rw [List.length_take, List.length_drop]; omega
  dsimp only at e2 e3
  refine ⟨⟨b, o + i * 7, by rw [hl]; exact .some _ _ _ _ (by omega) (by omega) hF, by rw [flatE_len], fun j u hj => ?_⟩, fun x hx => hv x (List.mem_of_mem_drop (List.mem_of_mem_take hx)), by rw [hl]; omega⟩
  have hj' : (flatE xs)[i * 7 + j]? = some u := by
    rw [← flatE_take, ← flatE_drop] at hj
    have hjl := (List.getElem?_eq_some_iff.1 hj).1
    rw [List.getElem?_take] at hj
    split at hj
    · rwa [List.getElem?_drop] at hj
    · cases hj
  rw [Nat.add_assoc]
  exact h3 _ u hj'
end Go.Proofs.YtechahocffcbpaaGreatDoor
namespace Go.Proofs.YtechahocffcbpaaGreatDoor
open Go.RowKit Go.Shelf
set_option linter.unusedVariables false
theorem ES.pre {w : World} {F : Nat → Prop} {b o c : Nat} {xs : List LE} (h : ES w F ⟨some ⟨b, o, none⟩, c⟩ xs) {n : Nat} (hn : n ≤ xs.length) (h0 : 0 < xs.length) : ES w F ⟨some ⟨b, o, none⟩, c⟩ (xs.take n) := by
  rcases Nat.eq_zero_or_pos n with rfl | hp
  · obtain ⟨⟨b', o', h1, h2, h3⟩, hv, hf⟩ := h
    obtain ⟨e1, e2, e3⟩ := h1.eq h0
    have hF := h1.fits h0
    obtain ⟨rfl, rfl⟩ : b = b' ∧ o = o' := by simpa using e1
    exact ⟨⟨b, o, .some _ _ _ _ (Nat.zero_le _) e3 hF, by simp [flatE], fun j u hj => by simp [flatE] at hj⟩, fun x hx => by simp at hx, by simp⟩
  · have := h.part (i := 0) (n := n) (by omega) hp
    simpa using this
end Go.Proofs.YtechahocffcbpaaGreatDoor
namespace Go.Proofs.YtechahocffcbpaaGreatDoor
open Go.RowKit
set_option linter.unusedVariables false
def onlyO (R : Act → World → Prop) : Exit → Act → World → Prop
  | .normal, a, w => R a w
  | _, _, _ => False
theorem onlyO_mk {R : Act → World → Prop} {a : Act} {w : World} (h : R a w) : onlyO R .normal a w := h
def putO (tm : Array Value) : List (Nat × Value) → Array Value
  | [] => tm
  | (i, v) :: l => putO (tm.setIfInBounds i v) l
theorem wp_meetO {P : Program} {c : Code} {Q : Exit → Act → World → Prop} {a : Act} {w : World} {α : Type} (Rw : World → α → Prop) (ds : List Nat) (vals : α → List (Nat × Value))
    (h1 : c.wp P (onlyO fun a' w' => ∃ x, Rw w' x ∧ a'.defers = a.defers ∧ a'.tmps = putO a.tmps ((ds.map fun d => (d, a'.tmps.getD d undef)) ++ vals x)) a w)
    (h2 : ∀ (w' : World) (x : α) (vs : Nat → Value), Rw w' x → Q .normal { tmps := putO a.tmps ((ds.map fun d => (d, vs d)) ++ vals x), defers := a.defers } w') : c.wp P Q a w :=
  wp_mono h1 fun e a' w' h => by
    cases e with
    | normal =>
      obtain ⟨x, hr, hd, ht⟩ := h
      have := h2 w' x (fun d => a'.tmps.getD d undef) hr
      rw [← ht, ← hd] at this
      exact this
    | _ => exact h.elim
end Go.Proofs.YtechahocffcbpaaGreatDoor
namespace Go.Proofs.YtechahocffcbpaaGreatDoor
open Go.RowKit Go.Maps
set_option linter.unusedVariables false
set_option linter.unusedSimpArgs false
theorem two_drew (w : World) (t0 t1 : TypeId) (c0 c1 : Array Value) : ∀ W, ((w.alloc (.cells c0 t0)).alloc (.cells c1 t1)).drew = W →
    Ext w W ∧ W.heap.size = w.heap.size + 2 ∧ Blk W w.heap.size t0 c0 ∧ Blk W (w.heap.size + 1) t1 c1 := by
  rintro W rfl
  obtain ⟨hx, hz, h0, h1⟩ := two_blocks w t0 t1 c0 c1 _ rfl
  exact ⟨hx.drew, hz, h0, h1⟩
theorem step_made {w : World} {O : Nat} {t t0 t1 t2 : TypeId} {cs c0 c1 c2 : Array Value} (hb : Blk w O t cs) : ∀ W, ((((w.setCell ⟨O, 1, none⟩ (.map (some (w.heap.size + 1 + 1 + 1)))).alloc (.cells c0 t0)).alloc (.cells c1 t1)).alloc (.cells c2 t2)).alloc (.map #[] 0) = W →
    Sb (fun c => c = O) w W ∧ w.heap.size + 3 ≤ W.heap.size ∧ Blk W O t (cs.setIfInBounds 1 (.map (some (w.heap.size + 1 + 1 + 1)))) ∧ Blk W w.heap.size t0 c0 ∧ Blk W (w.heap.size + 1) t1 c1 ∧ Blk W (w.heap.size + 1 + 1) t2 c2 ∧ W.ownsMap Tryz.prog 9 heldR (w.heap.size + 1 + 1 + 1) 0 (mapA SV.val []) := by
  rintro W rfl
  have hz : (w.setCell ⟨O, 1, none⟩ (.map (some (w.heap.size + 1 + 1 + 1)))).heap.size = w.heap.size := World.size_setCell _ _ _
  have hs0 : Sb (fun c => c = O) w (w.setCell ⟨O, 1, none⟩ (.map (some (w.heap.size + 1 + 1 + 1)))) := (Sb.refl (fun c => c = O) w).set (p := ⟨O, 1, none⟩) (.inr rfl) _
  have hb0 := hb.set_ 1 (.map (some (w.heap.size + 1 + 1 + 1)))
  generalize w.setCell ⟨O, 1, none⟩ (.map (some (w.heap.size + 1 + 1 + 1))) = W0 at *
  obtain ⟨hx, hz3, h0, h1, h2⟩ := three_blocks W0 t0 t1 t2 c0 c1 c2 _ rfl
  rw [hz] at h0 h1 h2 hz3
  generalize ((W0.alloc (.cells c0 t0)).alloc (.cells c1 t1)).alloc (.cells c2 t2) = W3 at *
  have hm := World.ownsMap_made W3 Tryz.prog 9 heldR
  rw [show W3.heap.size = w.heap.size + 1 + 1 + 1 by omega] at hm
  exact ⟨(hs0.trans (hx.sb _)).trans (Sb.made (World.grownBy_alloc _ _ _)), by simp; omega, (hb0.ext hx).alloc _, h0.alloc _, h1.alloc _, h2.alloc _, hm⟩
theorem step_any {H : Nat → Prop} {w : World} {O : Nat} {d : OD} (h : OvAt H w O d) (hH : ∀ b, H b → b < w.heap.size) (hn : d.us.length ≤ 1000000) {k : ByteArray} (hk : k.size ≤ maxLen) {sv : SV} (hsv : SVok w (OvF H w O d) sv) :
    Calls Tryz.prog 35 #[.pointer (some ⟨O, 0, none⟩), .string k, sv.val] w (StepPost H O d k sv w) := by
  obtain ⟨i0, hi, hz0, hz1, hz2⟩ := info_parts Tryz.infoFn
  have hmm := @run_makeMap Tryz.prog
  have qmn : ∀ (w : World) (r : Option Nat), (binOp .eql 26 (.map r) (.map none)).run Tryz.prog w = .ok (.bool r.isNone) w := fun w r => run_eql_map_nil w _ _ _ r Tryz.underlying26
  have c1 : w.cell? ⟨O, 1, none⟩ = some (.map d.mb) := h.blk.cell 1
  have f1 := h.blk.frozen 1
  have lO := h.blk.lt
  have hrl : ∀ i, d.s.row = some i → i < w.heap.size := fun i hi => h.row_lt hi
  have HAT := Lib.hid h
  have HHH := Lib.hid hH
  have HSV := Lib.hid hsv
  have HRL := Lib.hid hrl
  clear h hH hsv hrl
  obtain ⟨has, v, sl, so⟩ := sv
  show Calls _ _ #[_, _, .agg #[.bool has, .int .i64 v.kind, .bool v.b, .int .i64 v.i, .string v.t, .slice sl.a v.l.length sl.c, .slice so.a v.ok.length so.c]] _ _
  have l1 : O < w.heap.size + 1 := by omega
  have l2 : O < w.heap.size + 1 + 1 := by omega
  go_enter Tryz.func35, Tryz.ntmps35
  go_upto_if 12 with fail
  go_cut [] (fun wc => ∃ b, StepMid H w O d k ⟨has, v, sl, so⟩ b wc)
  case first =>
    obtain ⟨mb, hmb⟩ : ∃ mb, d.mb = mb := ⟨_, rfl⟩
    rw [hmb] at c1 ⊢
    have HMB := Lib.hid hmb
    clear hmb
    rcases mb with _ | b
    · go_wp2_with fail
      generalize hW0 : World.alloc _ _ = W0
      obtain ⟨hs0, hz0, hbO, hb0, hb1, hb2, hown⟩ := step_made HAT.out.blk W0 hW0
      clear hW0
      go_meet
      case rel =>
        have hat := HAT.out.made HMB.out (b := w.heap.size + 1 + 1 + 1) (by omega) HHH.out hs0 hbO hown
        refine ⟨_, hat, hs0.mono fun i _ h => .inl h, .inr (by omega), hz0, hb0, hb1, hb2, ?_⟩
        refine (HSV.out.agree (fun i hi => hs0.block i hi.1 fun e => hi.2.1 (.inl e))).mono fun i hi => ⟨Nat.lt_of_lt_of_le hi.1 hs0.size, fun e => ?_, hi.2.2⟩
        rcases e with e | e | e
        · exact hi.2.1 (.inl e)
        · have e : some (w.heap.size + 1 + 1 + 1) = some i := e
          injection e with e
          have := hi.1; omega
        · exact hi.2.1 (.inr (.inr e))
    · go_wp2_with fail
      generalize hW0 : World.alloc _ _ = W0
      obtain ⟨hx0, hz0', hb0, hb1, hb2⟩ := three_blocks w _ _ _ _ _ _ W0 hW0
      clear hW0
      go_meet
      case rel =>
        have hat := HAT.out.ext hx0
        have hd : d = { d with mb := some b } := by rw [← HMB.out]
        refine ⟨b, by rw [← hd]; exact hat, hx0.sb _, .inl HMB.out, by omega, hb0, hb1, hb2, ?_⟩
        rw [← hd]
        exact (HSV.out.agree (hx0.agree fun b hb => hb.1)).mono fun i hi => ⟨Nat.lt_of_lt_of_le hi.1 hx0.size, hi.2⟩
  case rest =>
    obtain ⟨b, hM⟩ := hcut
    have hlk : ∀ W, Ext wc W → (Instr.lookup 26 (.map (some b)) (.string k) true).run Tryz.prog W = .ok (.tuple #[(hadA d.C k).val, .bool (getA d.C k).isSome]) W := fun W hW =>
      look_ov (hM.at_.ext hW).map hk
    obtain ⟨o, ho⟩ : ∃ o, hadA d.C k = o := ⟨_, rfl⟩
    obtain ⟨g, hg⟩ : ∃ g, (getA d.C k).isSome = g := ⟨_, rfl⟩
    rw [ho, hg] at hlk
    obtain ⟨oh, ov, osl, oso⟩ := o
    have HO := Lib.hid ho
    have HG := Lib.hid hg
    have lO3 : O < wc.heap.size := hM.at_.blk.lt
    have hbig := hM.big
    have HM := Lib.hid hM
    have HSS := Lib.hid (show ∀ W, Ext wc W → W.cell? ⟨w.heap.size, 0, none⟩ = some (.pointer (some ⟨O, 0, none⟩)) ∧ W.cell? ⟨O, 1, none⟩ = some (.map (some b)) ∧ W.cell? ⟨w.heap.size + 1, 0, none⟩ = some (.string k) ∧
        (Instr.lookup 26 (.map (some b)) (.string k) true).run Tryz.prog W = .ok (.tuple #[.agg #[.bool oh, .int .i64 ov.kind, .bool ov.b, .int .i64 ov.i, .string ov.t, .slice osl.a ov.l.length osl.c, .slice oso.a ov.ok.length oso.c], .bool g]) W from
      fun W hW => ⟨(hM.bo.ext hW).cell 0, ((hM.at_.ext hW).blk).cell 1, (hM.bk.ext hW).cell 0, hlk W hW⟩)
    clear hM hlk ho hg c1 f1 l1 l2
    go_wp2_with fail
    refine wp_meetO (α := Nat × Nat) (fun w' x => Ext wc w' ∧ (wc.heap.size ≤ x.1 ∧ x.1 < w'.heap.size) ∧ (wc.heap.size ≤ x.2 ∧ x.2 < w'.heap.size) ∧ Blk w' x.1 85 #[.bool oh, .int .i64 ov.kind, .bool ov.b, .int .i64 ov.i, .string ov.t, .slice osl.a ov.l.length osl.c, .slice oso.a ov.ok.length oso.c] ∧ Blk w' x.2 4 #[.bool g]) [17, 18, 19, 20, 21, 22, 23, 24, 25] (fun x => [(6, .pointer (some ⟨x.1, 0, none⟩)), (7, .pointer (some ⟨x.2, 0, none⟩))]) ?h1 ?h2
    case h1 =>
      refine wp_region_held_drew (S := (fun w' => Ext wc w')) (by kernel_rfl) (((Ext.refl wc).drew)) (fun hHeld => ?_)
      refine heldT 0 (some 18) HSS hHeld ?_
      refine heldT 1 (some 19) HSS hHeld ?_
      refine heldT 2 (some 20) HSS hHeld ?_
      refine heldT 3 (some 21) HSS hHeld ?_
      refine heldT 4 (some 22) HSS hHeld ?_
      refine heldT 5 (some 23) HSS hHeld ?_
      refine heldT 6 (some 17) HSS hHeld ?_
      refine heldT 7 (some 24) HSS hHeld ?_
      refine heldT 8 (some 25) HSS hHeld ?_
      refine held_two (i := 9) (j := 10) (by kernel_rfl) rfl rfl (by rfl) (by rfl) (fun K hK => ?_) (fun K hK => ?_)
      · go_simp
        skip
        refine hK.out _ _ ((by first|exact (((Ext.refl _).drew).alloc _ _).alloc _ _|exact ((Ext.refl _).drew).alloc _ _)) (fun hHeld => ?_)
        clear hK K
        try simp only [Act.put, List.setIfInBounds_toArray, List.set_cons_zero, List.set_cons_succ]
        refine held_call (i := 10) (by kernel_rfl) rfl (by rfl) (fun K hK => ?_)
        go_simp
        skip
        refine hK.out _ _ ((by first|exact (((Ext.refl _).drew).alloc _ _).alloc _ _|exact ((Ext.refl _).drew).alloc _ _)) (fun hHeld => ?_)
        clear hK K
        try simp only [Act.put, List.setIfInBounds_toArray, List.set_cons_zero, List.set_cons_succ]
        refine held_call (i := 11) (by kernel_rfl) rfl (by rfl) (fun K hK => ?_)
        go_simp
        skip
        refine hK.out _ _ ((by first|exact (((Ext.refl _).drew).alloc _ _).alloc _ _|exact (((Ext.refl _).alloc _ _).alloc _ _).drew)) (fun hHeld => ?_)
        clear hK K
        try simp only [Act.put, List.setIfInBounds_toArray, List.set_cons_zero, List.set_cons_succ]
        refine held_call (i := 12) (by kernel_rfl) rfl (by rfl) (fun K hK => ?_)
        go_simp
        skip
        refine hK.out _ _ ((by first|exact (((Ext.refl _).drew).alloc _ _).alloc _ _|exact (((Ext.refl _).alloc _ _).alloc _ _).drew)) (fun hHeld => ?_)
        clear hK K
        try simp only [Act.put, List.setIfInBounds_toArray, List.set_cons_zero, List.set_cons_succ]
        refine wpAnyH_done (by kernel_rfl) ?_ _
        generalize hWm : World.drew _ = wm
        obtain ⟨hxm, hzm, hb1, hb2⟩ := two_drew wc _ _ _ _ wm hWm
        refine onlyO_mk ⟨(wc.heap.size, wc.heap.size + 1), ⟨hxm, ⟨Nat.le_refl _, by show wc.heap.size < _; omega⟩, ⟨Nat.le_succ _, by show wc.heap.size + 1 < _; omega⟩, hb1, hb2⟩, by kernel_rfl, ?_⟩
        simp only [putO, List.map_cons, List.map_nil, List.cons_append, List.nil_append, List.setIfInBounds_toArray, List.set_cons_zero, List.set_cons_succ]
        kernel_rfl
      · go_simp
        skip
        refine hK.out _ _ ((by first|exact (((Ext.refl _).drew).alloc _ _).alloc _ _|exact ((Ext.refl _).drew).alloc _ _)) (fun hHeld => ?_)
        clear hK K
        try simp only [Act.put, List.setIfInBounds_toArray, List.set_cons_zero, List.set_cons_succ]
        refine held_call (i := 9) (by kernel_rfl) rfl (by rfl) (fun K hK => ?_)
        go_simp
        skip
        refine hK.out _ _ ((by first|exact (((Ext.refl _).drew).alloc _ _).alloc _ _|exact ((Ext.refl _).drew).alloc _ _)) (fun hHeld => ?_)
        clear hK K
        try simp only [Act.put, List.setIfInBounds_toArray, List.set_cons_zero, List.set_cons_succ]
        refine held_call (i := 11) (by kernel_rfl) rfl (by rfl) (fun K hK => ?_)
        go_simp
        skip
        refine hK.out _ _ ((by first|exact (((Ext.refl _).drew).alloc _ _).alloc _ _|exact (((Ext.refl _).alloc _ _).alloc _ _).drew)) (fun hHeld => ?_)
        clear hK K
        try simp only [Act.put, List.setIfInBounds_toArray, List.set_cons_zero, List.set_cons_succ]
        refine held_call (i := 12) (by kernel_rfl) rfl (by rfl) (fun K hK => ?_)
        go_simp
        skip
        refine hK.out _ _ ((by first|exact (((Ext.refl _).drew).alloc _ _).alloc _ _|exact (((Ext.refl _).alloc _ _).alloc _ _).drew)) (fun hHeld => ?_)
        clear hK K
        try simp only [Act.put, List.setIfInBounds_toArray, List.set_cons_zero, List.set_cons_succ]
        refine wpAnyH_done (by kernel_rfl) ?_ _
        generalize hWm : World.drew _ = wm
        obtain ⟨hxm, hzm, hb1, hb2⟩ := two_drew wc _ _ _ _ wm hWm
        refine onlyO_mk ⟨(wc.heap.size + 1, wc.heap.size), ⟨hxm, ⟨Nat.le_succ _, by show wc.heap.size + 1 < _; omega⟩, ⟨Nat.le_refl _, by show wc.heap.size < _; omega⟩, hb2, hb1⟩, by kernel_rfl, ?_⟩
        simp only [putO, List.map_cons, List.map_nil, List.cons_append, List.nil_append, List.setIfInBounds_toArray, List.set_cons_zero, List.set_cons_succ]
        kernel_rfl
    rintro wm ⟨bd, bw⟩ uu ⟨hxm, hd1, hw1, hbd, hbw⟩
    simp only [putO, List.map_cons, List.map_nil, List.cons_append, List.nil_append, List.setIfInBounds_toArray, List.set_cons_zero, List.set_cons_succ]
    dsimp only at hd1 hw1 hbd hbw
    have hbm := HM.out.at_.blk.ext hxm
    have c2 : wm.cell? ⟨O, 2, none⟩ = some (.slice d.s.a d.us.length d.s.c) := hbm.cell 2
    have f2 := hbm.frozen 2
    have lOm := hbm.lt
    have hob := HM.out.bo.ext hxm
    have c3 : wm.cell? ⟨w.heap.size, 0, none⟩ = some (.pointer (some ⟨O, 0, none⟩)) := hob.cell 0
    have l3 := hob.lt
    obtain ⟨xs, hl, hown, hun⟩ := HM.out.at_.row
    have HL := Lib.hid (show xs.length = d.us.length from hl)
    have HUN := Lib.hid hun
    have HOX := Lib.hid (show ∀ W, Ext wm W → W.ownsRow 0 1 1 (.slice d.s.a d.us.length d.s.c) d.us.length xs from fun W hW => own_agree hown ((hxm.trans hW).agree fun b (hb : b < wc.heap.size) => hb) fun b hb => (own_row hown hb).2)
    have hrO : d.s.row ≠ some O := HM.out.at_.ne.2.1
    have hr3 : d.s.row ≠ some w.heap.size := fun e => by have := HRL.out _ e; omega
    have hone : ∀ u ∈ [undoC bw bd w.heap.size (w.heap.size + 1)], u.oneCell' = true := by simp [Value.oneCell']
    have h63 : d.us.length + 1 ≤ maxLen := by unfold maxLen; omega
    have hby : (d.us.length + 1) * 8 ≤ 140737488355328 := by omega
    have HXM := Lib.hid hxm
    have HBD := Lib.hid hbd
    have HBW := Lib.hid hbw
    have HW1 := Lib.hid hw1
    have HD1 := Lib.hid hd1
    clear hbd hbw hw1 hd1 hbm hob hl hun hown hxm HSS
    go_wp2_with fail
    refine wp_meetO (α := Sl × World × World) (fun w' x => Ext wm x.2.1 ∧ x.2.2.ownsRow 0 1 1 (.slice x.1.a (d.us.length + 1) x.1.c) (d.us.length + 1) (xs ++ [undoC bw bd w.heap.size (w.heap.size + 1)]) ∧ Wr x.2.1 x.2.2 d.s.row ∧ (x.1.a = d.s.a ∨ x.1.a = some ⟨x.2.1.heap.size, 0, none⟩ ∧ Wr x.2.1 x.2.2 none) ∧ w' = x.2.2.setCell ⟨O, 2, none⟩ (.slice x.1.a (d.us.length + 1) x.1.c)) [26, 27, 28, 29, 30, 31, 32, 33, 34, 35] (fun _ => []) ?g1 ?g2
    case g1 =>
      go_region_law (refine step_append_x _ rfl (.tmp 30) (.tmp 32) 27 rfl 0 1 i0 _ 1 8 Tryz.underlying27 hi hz0 hz1 hz2 rfl (by decide) d.s d.us.length xs (by rfl) (HOX.out _ (by first | exact ((Ext.refl wm).drew).alloc _ _ | exact ((Ext.refl wm).alloc _ _).drew)) (fun b => b = wm.heap.size) ⟨some ⟨wm.heap.size, 0, none⟩, 1⟩ 1 [undoC bw bd w.heap.size (w.heap.size + 1)] (by rfl) (Rd.block (Blk.new _ _ _) (by decide) rfl) hone h63 hby (Nat.zero_le _) ?_; intro s5 w5 hown5 hwr5 hs5; have hq5 := hwr5.cell0 (w := wm) (o := 2) (by first | exact ((Ext.refl wm).drew).alloc _ _ | exact ((Ext.refl wm).alloc _ _).drew) hrO lOm; have cq5 := hq5.1.trans c2; have lq5 := hq5.2; have hp5 := hwr5.cell0 (w := wm) (o := 0) (by first | exact ((Ext.refl wm).drew).alloc _ _ | exact ((Ext.refl wm).alloc _ _).drew) hr3 l3; have cp5 := hp5.1.trans c3; have f5 : w5.frozen? ⟨O, 2, none⟩ = false := (hwr5.fz _ _).trans (((by first | exact ((Ext.refl wm).drew).alloc _ _ | exact ((Ext.refl wm).alloc _ _).drew : Ext wm _).frozen (o := 2) lOm).trans f2); have HO5 := Lib.hid hown5; have HW5 := Lib.hid hwr5; have HS5 := Lib.hid hs5; clear hown5 hwr5 hs5 hq5 hp5)
      all_goals
        refine onlyO_mk ⟨(s5, _, w5), ⟨by first | exact ((Ext.refl wm).drew).alloc _ _ | exact ((Ext.refl wm).alloc _ _).drew, HO5.out, HW5.out, HS5.out, rfl⟩, by kernel_rfl, ?_⟩
        simp only [putO, List.map_cons, List.map_nil, List.append_nil, List.cons_append, List.nil_append, List.setIfInBounds_toArray, List.set_cons_zero, List.set_cons_succ]
        kernel_rfl
    rintro w6 ⟨s5, W5, w5⟩ vv ⟨hx5, ho5, hw5, hs5, rfl⟩
    simp only [putO, List.map_cons, List.map_nil, List.append_nil, List.cons_append, List.nil_append, List.setIfInBounds_toArray, List.set_cons_zero, List.set_cons_succ]
    dsimp only at hx5 ho5 hw5 hs5
    have hcm : Ext wc W5 := HXM.out.trans hx5
    have hsb6 : Sb (fun c => c = O ∨ d.s.row = some c) wc (w5.setCell ⟨O, 2, none⟩ (.slice s5.a (d.us.length + 1) s5.c)) :=
      ((hcm.sb _).trans ⟨hw5.grown.os, hw5.grown.tape, hw5.grown.output, hw5.grown.size, fun i hi hn => hw5.grown.block i hi fun e => hn (.inr e.symm)⟩).trans ((Sb.refl _ w5).set (p := ⟨O, 2, none⟩) (.inr (.inl rfl)) _)
    have hbm5 : Blk w5 O 29 #[rootV d.T, .map (some b), .slice d.s.a d.us.length d.s.c] := (hw5.agree (F := fun c => c = O) (fun i hi => by rw [hi]; exact Nat.lt_of_lt_of_le lO3 hcm.size) (fun i hi e => hrO (by rw [hi, e])) O rfl).trans (HM.out.at_.blk.ext hcm)
    have hb6 := hbm5.set_ 2 (.slice s5.a (d.us.length + 1) s5.c)
    have hnO : ¬ O = b := fun e => HM.out.at_.ne.1 (by rw [e])
    have n0 := OvMap.ne HM.out.at_.map HM.out.bo
    have n1 := OvMap.ne HM.out.at_.map HM.out.bk
    have n2 := OvMap.ne HM.out.at_.map HM.out.bs
    have k0 := hsb6.blk HM.out.bo (fun e => by
      rcases e with e | e
      · omega
      · have := HRL.out _ e; omega)
    have k1 := hsb6.blk HM.out.bk (fun e => by
      rcases e with e | e
      · omega
      · have := HRL.out _ e; omega)
    have k2 := hsb6.blk HM.out.bs (fun e => by
      rcases e with e | e
      · omega
      · have := HRL.out _ e; omega)
    have hmap6 : OvMap (w5.setCell ⟨O, 2, none⟩ (.slice s5.a (d.us.length + 1) s5.c)) (some b) d.C := HM.out.at_.map.heap fun i hi => by
      injection hi with hi
      subst hi
      exact hsb6.block b (HM.out.at_.map.lt rfl) fun e => by
        rcases e with e | e
        · exact hnO e.symm
        · exact HM.out.at_.ne.2.2 b rfl e
    have HX5 := Lib.hid hx5
    have HO5 := Lib.hid ho5
    have HW5 := Lib.hid hw5
    have HS5 := Lib.hid hs5
    obtain ⟨W6, hW6⟩ : ∃ W6, w5.setCell ⟨O, 2, none⟩ (.slice s5.a (d.us.length + 1) s5.c) = W6 := ⟨_, rfl⟩
    rw [hW6] at hb6 k0 k1 k2 hmap6 ⊢
    have HW6 := Lib.hid hW6
    have HMAP := Lib.hid hmap6
    have HSS := Lib.hid (show ∀ W, Sb (fun c => c = b) W6 W → W.cell? ⟨w.heap.size, 0, none⟩ = some (.pointer (some ⟨O, 0, none⟩)) ∧ W.cell? ⟨O, 1, none⟩ = some (.map (some b)) ∧ W.cell? ⟨w.heap.size + 1, 0, none⟩ = some (.string k) ∧ W.cell? ⟨w.heap.size + 1 + 1, 0, none⟩ = some (.bool has) ∧ W.cell? ⟨w.heap.size + 1 + 1, 1, none⟩ = some (.int .i64 v.kind) ∧ W.cell? ⟨w.heap.size + 1 + 1, 2, none⟩ = some (.bool v.b) ∧ W.cell? ⟨w.heap.size + 1 + 1, 3, none⟩ = some (.int .i64 v.i) ∧ W.cell? ⟨w.heap.size + 1 + 1, 4, none⟩ = some (.string v.t) ∧ W.cell? ⟨w.heap.size + 1 + 1, 5, none⟩ = some (.slice sl.a v.l.length sl.c) ∧ W.cell? ⟨w.heap.size + 1 + 1, 6, none⟩ = some (.slice so.a v.ok.length so.c) from
      fun W hW => ⟨(hW.blk k0 n0).cell 0, (hW.blk hb6 hnO).cell 1, (hW.blk k1 n1).cell 0, (hW.blk k2 n2).cell 0, (hW.blk k2 n2).cell 1, (hW.blk k2 n2).cell 2, (hW.blk k2 n2).cell 3, (hW.blk k2 n2).cell 4, (hW.blk k2 n2).cell 5, (hW.blk k2 n2).cell 6⟩)
    have hCs : d.C.length < maxLen := by have := HAT.out.few; unfold maxLen; omega
    clear hcm hsb6 hbm5 hb6 n0 n1 n2 k0 k1 k2 hmap6 hx5 ho5 hw5 hs5 hW6 c2 f2 lOm c3 l3 hone h63 hby
    go_wp2_with fail
    refine wp_region_held_drew (S := (fun w' => Sb (fun c => c = b) W6 w')) (by kernel_rfl) (((Sb.refl _ W6).drew)) (fun hHeld => ?_)
    refine heldT 0 (some 36) HSS hHeld ?_
    refine heldT 1 (some 37) HSS hHeld ?_
    refine heldT 2 (some 38) HSS hHeld ?_
    refine heldT 3 (some 39) HSS hHeld ?_
    refine heldT 4 (some 40) HSS hHeld ?_
    refine heldT 5 (some 41) HSS hHeld ?_
    refine held_call (i := 6) (by kernel_rfl) rfl (by rfl) (fun K hK => ?_)
    skip
    (refine oper_putA (b := b) (C := d.C) (k := k) (s := ⟨has, v, sl, so⟩) rfl rfl rfl rfl (HMAP.out.heap fun _ _ => rfl) hk hCs HAT.out.sorted ?_; intro w7 hown7 hsb7)
    refine hK.out _ _ (hHeld.trans hsb7) (fun hHeld => ?_)
    clear hK K
    try simp only [Act.put, List.setIfInBounds_toArray, List.set_cons_zero, List.set_cons_succ]
    refine wpAnyH_done (by kernel_rfl) ?_ _
    have h7 : Sb (fun c => c = b) (w5.setCell ⟨O, 2, none⟩ (.slice s5.a (d.us.length + 1) s5.c)) w7 := by rw [HW6.out]; exact hHeld
    have hend := step_end HM.out lO HRL.out HHH.out hk HXM.out HW1.out HD1.out (by rw [HO.out]; exact HBD.out) (by rw [HG.out]; exact HBW.out) HX5.out HL.out HUN.out HO5.out HW5.out HS5.out hown7 h7
    go_end0
    exact ⟨⟨_, rfl⟩, _, _, hend⟩
abbrev Nw (w w' : World) : Prop := Sb (fun _ => False) w w'
theorem Nw.any {w w' : World} (h : Nw w w') (H : Nat → Prop) : Sb H w w' := h.mono fun _ _ e => e.elim
theorem Nw.blk {w w' : World} (h : Nw w w') {g : Nat} {t : TypeId} {cs : Array Value} (hb : Blk w g t cs) : Blk w' g t cs := Sb.blk h hb fun e => e
theorem Nw.agree {w w' : World} (h : Nw w w') {F : Nat → Prop} (hF : ∀ b, F b → b < w.heap.size) : Agree F w w' := fun b hb => h.block b (hF b hb) fun e => e
theorem Nw.of {w w' : World} (h : Ext w w') : Nw w w' := h.sb _
section
variable {H : Nat → Prop} {w w' : World} {O : Nat} {d d' : OD}
theorem OvAt.nw (h : OvAt H w O d) (k : Nw w w') : OvAt H w' O d := h.sb k fun _ hb => hb.elim
theorem OvTo.after {w0 : World} (h : OvTo H w O d d' w') (k : Nw w0 w) : OvTo H w0 O d d' w' :=
  ⟨h.at_, (k.any _).trans h.sb, fun b hb => (h.new b hb).imp id fun hh => Nat.le_trans k.size hh⟩
theorem OvTo.then (h : OvTo H w O d d' w') {w2 : World} (k : Nw w' w2) : OvTo H w O d d' w2 := ⟨h.at_.nw k, h.sb.trans (k.any _), h.new⟩
def OD.step (d : OD) (k : ByteArray) (sv : SV) (mb : Option Nat) (s : Sl) : OD := ⟨d.T, mb, s, d.us ++ [⟨k, getA d.C k⟩], d.Hs ++ [putA d.C k sv], putA d.C k sv⟩
end
def DelPostO (H : Nat → Prop) (O : Nat) (d : OD) (k : ByteArray) (w : World) (e : Ending) (w' : World) : Prop :=
  e = .returned (.bool (d.now k).isSome) ∧ (((d.now k).isSome = false ∧ Nw w w') ∨ ((d.now k).isSome = true ∧ ∃ mb s, OvTo H w O d (d.step k zeroSV mb s) w'))
theorem delete_ov {H : Nat → Prop} {w : World} {O : Nat} {d : OD} (h : OvAt H w O d) (hH : ∀ b, H b → b < w.heap.size) (hn : d.us.length ≤ 1000000) (hl : (entsT d.T).length ≤ 1000000) {k : ByteArray} (hk : k.size ≤ maxLen) :
    Calls Tryz.prog 21 #[.pointer (some ⟨O, 0, none⟩), .string k] w (DelPostO H O d k w) := by
  have hg := get_ov h hl hk
  have hst := fun W (hW : Ext w W) => step_any (h.ext hW) (fun b hb => Nat.lt_of_lt_of_le (hH b hb) hW.size) hn hk (sv := zeroSV) ⟨rv_zeroO _ _, fun _ => rfl⟩
  unfold DelPostO
  generalize d.now k = og at *
  have HST := Lib.hid hst
  have HG := Lib.hid hg
  clear h hH hst hg
  go_enter Tryz.func21, Tryz.ntmps21
  go_wp2_with fail
  refine HG.out.mono ?_
  rintro e w1 ⟨sl, so, rfl, hx1, -⟩
  have HX1 := Lib.hid hx1
  clear hx1
  cases og with
  | none =>
    go_wp2_with fail
    go_ret
    exact ⟨rfl, .inl ⟨rfl, Nw.of (HX1.out.alloc _ _)⟩⟩
  | some v =>
    go_wp2_with fail
    have hx2 := HX1.out.alloc (w := w1) #[.int .i64 v.kind, .bool v.b, .int .i64 v.i, .string v.t, .slice sl.a v.l.length sl.c, .slice so.a v.ok.length so.c] 34
    refine (HST.out _ hx2).mono ?_
    rintro e w3 ⟨⟨r, rfl⟩, mb, s, hto⟩
    have HTO := Lib.hid (hto.after (Nw.of hx2))
    clear hto hx2
    go_wp2_with fail
    go_ret
    exact ⟨rfl, .inr ⟨rfl, mb, s, HTO.out⟩⟩
theorem delete_ov_nil (w : World) (k : ByteArray) : Calls Tryz.prog 21 #[.pointer none, .string k] w fun e w' => e = .returned (.bool false) ∧ Nw w w' := by
  have hg := get_ov_nil w k
  have HG := Lib.hid hg
  clear hg
  go_enter Tryz.func21, Tryz.ntmps21
  go_wp2_with fail
  refine HG.out.mono ?_
  rintro e w1 ⟨sl, so, rfl, hx1, -⟩
  have HX1 := Lib.hid hx1
  clear hx1
  go_wp2_with fail
  go_ret
  exact ⟨rfl, Nw.of (HX1.out.alloc _ _)⟩
theorem put_ov_nil (w : World) (k : ByteArray) (v : Val) (sl so : Sl) : Calls Tryz.prog 10 #[.pointer none, .string k, aggV v sl so] w fun e w' => e = .returned (.int .i64 1) ∧ Nw w w' := by
  go_enter Tryz.func10, Tryz.ntmps10
  go_wp2_with fail
  go_ret
  exact ⟨rfl, Nw.of ((Ext.refl w).alloc _ _)⟩
def PutPostO (H : Nat → Prop) (O : Nat) (d : OD) (k : ByteArray) (v : Val) (w : World) (e : Ending) (w' : World) : Prop :=
  e = .returned (.int .i64 0) ∧ ∃ sl so mb s, OvTo H w O d (d.step k ⟨true, v, sl, so⟩ mb s) w'
theorem put_ov {H : Nat → Prop} {w : World} {O : Nat} {d : OD} (h : OvAt H w O d) (hH : ∀ b, H b → b < w.heap.size) (hn : d.us.length ≤ 1000000) {k : ByteArray} (hk : k.size ≤ maxLen) {v : Val} {sl so : Sl} (hv : RV w (Lt w.heap.size) v sl so)
    (hmay : ∀ W, Nw w W → Calls Tryz.prog 33 #[.string k] W fun e w' => e = .returned (.int .i64 0) ∧ Nw W w')
    (hfit : ∀ W, Nw w W → Calls Tryz.prog 34 #[aggV v sl so] W fun e w' => e = .returned (.int .i64 0) ∧ Nw W w') :
    Calls Tryz.prog 10 #[.pointer (some ⟨O, 0, none⟩), .string k, aggV v sl so] w (PutPostO H O d k v w) := by
  have hst := fun W (hW : Nw w W) sv hsv => step_any (h.nw hW) (fun b hb => Nat.lt_of_lt_of_le (hH b hb) hW.size) hn hk (sv := sv) hsv
  have hcp := fun W (hW : Nw w W) => copy_any _ v (Nat.le_refl _) W sl so ((hv.agree (hW.agree fun b hb => hb)).mono fun b hb => Nat.lt_of_lt_of_le hb hW.size)
  have hown : ∀ b, OvB O d b → b < w.heap.size := fun b hb => h.own_lt hb
  have HM := Lib.hid hmay
  have HF := Lib.hid hfit
  have HST := Lib.hid hst
  have HCP := Lib.hid hcp
  have HOWN := Lib.hid hown
  have HHH := Lib.hid hH
  clear hmay hfit h hv hst hcp hown hH
  go_enter Tryz.func10, Tryz.ntmps10
  go_wp2_with fail
  have hx0 : Ext w (w.alloc (.cells #[.int .i64 v.kind, .bool v.b, .int .i64 v.i, .string v.t, .slice sl.a v.l.length sl.c, .slice so.a v.ok.length so.c] 34)) := (Ext.refl w).alloc _ _
  have hb0 := Blk.new w 34 #[.int .i64 v.kind, .bool v.b, .int .i64 v.i, .string v.t, .slice sl.a v.l.length sl.c, .slice so.a v.ok.length so.c]
  refine (HM.out _ (Nw.of hx0)).mono ?_
  rintro e w1 ⟨rfl, hx1⟩
  have hb1 := hx1.blk hb0
  obtain ⟨q0, q1, q2, q3, q4, q5⟩ := hb1.c6
  have hx01 := (Nw.of hx0).trans hx1
  have HX1 := Lib.hid hx01
  have HB1 := Lib.hid hb1
  clear hx0 hx1 hx01 hb0 hb1 HM
  go_wp2_with fail
  refine (HF.out _ HX1.out).mono ?_
  rintro e w2 ⟨rfl, hx2⟩
  have hb2 := hx2.blk HB1.out
  have hx02 := HX1.out.trans hx2
  have HX2 := Lib.hid hx02
  clear hx2 q0 q1 q2 q3 q4 q5 HB1 HF
  obtain ⟨q0, q1, q2, q3, q4, q5⟩ := hb2.c6
  clear hb2 hx02
  go_wp2_with fail
  refine (HCP.out _ HX2.out).mono ?_
  rintro e w3 ⟨sl', so', rfl, hx3, hrv⟩
  have hx03 := HX2.out.trans (Nw.of hx3)
  have hok : SVok w3 (OvF H w3 O d) ⟨true, v, sl', so'⟩ := ⟨hrv.mono fun i hi => ⟨hi.2, fun e => by have := HOWN.out i e; have := HX2.out.size; have := hi.1; omega, fun e => by have := HHH.out i e; have := HX2.out.size; have := hi.1; omega⟩, fun e => by cases e⟩
  have hcall := HST.out w3 hx03 _ hok
  have HX3 := Lib.hid hx03
  have HCALL := Lib.hid hcall
  clear hx3 hrv hx03 hok hcall q0 q1 q2 q3 q4 q5 HCP HST
  go_wp2_with fail
  refine HCALL.out.mono ?_
  rintro e w4 ⟨⟨r, rfl⟩, mb, s, hto⟩
  have HTO := Lib.hid (hto.after HX3.out)
  clear hto
  go_wp2_with fail
  go_ret
  exact ⟨rfl, sl', so', mb, s, HTO.out⟩
end Go.Proofs.YtechahocffcbpaaGreatDoor
namespace Go.Proofs.YtechahocffcbpaaGreatDoor
open Go.RowKit Go.Maps Go.Sort Go.Shelf
set_option linter.unusedVariables false
def Tryz.keys38_ren : Go.Shelf.Ren := ⟨fun | 7 => 38 | 10 => 64 | n => n, fun | 23 => 26 | 26 => 9 | 3 => 85 | 28 => 89 | 0 => 0 | 27 => 88 | 33 => 58 | 4 => 4 | n => n, fun | n => n⟩
theorem Tryz.keys38 : Go.Proofs.SlLaysZ.n7 Tryz.prog Tryz.keys38_ren := {
  mixed := by kernel_rfl
  f7 := ⟨Tryz.f38.name, by decide, Tryz.func38.trans (congrArg some (by kernel_rfl))⟩
  f10 := ⟨Tryz.f64.name, by decide, Tryz.func64.trans (congrArg some (by kernel_rfl))⟩
  t0 := Tryz.underlying0
  a0 := Tryz.isAgg0
  z0 := Tryz.sizeOf0
  v0 := Tryz.zeroValue0
  t4 := Tryz.underlying4
  a4 := Tryz.isAgg4
  z4 := Tryz.sizeOf4
  v4 := Tryz.zeroValue4
  t23 := Tryz.underlying26
  a23 := Tryz.isAgg26
  z23 := Tryz.sizeOf26
  v23 := Tryz.zeroValue26
  t26 := Tryz.underlying9
  a26 := Tryz.isAgg9
  z26 := Tryz.sizeOf9
  v26 := Tryz.zeroValue9
  t27 := Tryz.underlying88
  a27 := Tryz.isAgg88
  z27 := Tryz.sizeOf88
  v27 := Tryz.zeroValue88
  t28 := Tryz.underlying89
  a28 := Tryz.isAgg89
  z28 := Tryz.sizeOf89
  v28 := Tryz.zeroValue89
  t33 := Tryz.underlying58
  a33 := Tryz.isAgg58
  z33 := Tryz.sizeOf58
  v33 := Tryz.zeroValue58 }
def Tryz.sorted37_ren : Go.Shelf.Ren := ⟨fun | 6 => 37 | 8 => 63 | 9 => 49 | 11 => 95 | 13 => 84 | 12 => 83 | 23 => 133 | 24 => 134 | 14 => 124 | 15 => 125 | 16 => 126 | 17 => 127 | 18 => 128 | 19 => 129 | 20 => 130 | 21 => 131 | 22 => 132 | 25 => 173 | 26 => 174 | 27 => 175 | 28 => 176 | 29 => 177 | 30 => 178 | 31 => 192 | n => n, fun | 26 => 9 | 28 => 89 | 24 => 59 | 0 => 0 | 3 => 3 | 37 => 78 | 48 => 185 | 50 => 187 | 4 => 4 | 40 => 179 | 39 => 178 | 45 => 104 | 5 => 5 | 9 => 9 | 51 => 212 | 55 => 216 | 57 => 232 | 58 => 166 | 33 => 58 | n => n, fun | n => n⟩
theorem Tryz.sorted37 : Go.Proofs.SlLaysZ.n6 Tryz.prog Tryz.sorted37_ren := {
  mixed := by kernel_rfl
  f6 := ⟨Tryz.f37.name, by decide, Tryz.func37.trans (congrArg some (by kernel_rfl))⟩
  f8 := ⟨Tryz.f63.name, by decide, Tryz.func63.trans (congrArg some (by kernel_rfl))⟩
  f11 := ⟨Tryz.f95.name, by decide, Tryz.func95.trans (congrArg some (by kernel_rfl))⟩
  t0 := Tryz.underlying0
  a0 := Tryz.isAgg0
  z0 := Tryz.sizeOf0
  v0 := Tryz.zeroValue0
  t24 := Tryz.underlying59
  a24 := Tryz.isAgg59
  z24 := Tryz.sizeOf59
  v24 := Tryz.zeroValue59
  t26 := Tryz.underlying9
  a26 := Tryz.isAgg9
  z26 := Tryz.sizeOf9
  v26 := Tryz.zeroValue9
  t28 := Tryz.underlying89
  a28 := Tryz.isAgg89
  z28 := Tryz.sizeOf89
  v28 := Tryz.zeroValue89
  i26 := by kernel_rfl }
def Tryz.sort49_ren : Go.Shelf.Ren := ⟨fun | 6 => 49 | 8 => 84 | 9 => 83 | 19 => 133 | 20 => 134 | 21 => 124 | 22 => 125 | 23 => 126 | 24 => 127 | 25 => 128 | 26 => 129 | 27 => 130 | 28 => 131 | 29 => 132 | 36 => 173 | 31 => 174 | 32 => 175 | 37 => 176 | 38 => 177 | 39 => 178 | 41 => 192 | n => n, fun | 27 => 59 | 29 => 9 | 3 => 3 | 32 => 78 | 26 => 59 | 0 => 0 | 44 => 185 | 46 => 187 | 4 => 4 | 36 => 179 | 35 => 178 | 41 => 104 | 5 => 5 | 9 => 9 | 53 => 212 | 57 => 216 | 63 => 232 | 64 => 166 | n => n, fun | n => n⟩
theorem Tryz.sort49 : Go.Proofs.SlLaysM.n6 Tryz.prog Tryz.sort49_ren := {
  mixed := by kernel_rfl
  f6 := ⟨Tryz.f49.name, by decide, Tryz.func49.trans (congrArg some (by kernel_rfl))⟩
  f8 := Tryz.func84.trans (congrArg some (by kernel_rfl))
  f9 := ⟨Tryz.f83.name, by decide, Tryz.func83.trans (congrArg some (by kernel_rfl))⟩
  f19 := Tryz.func133.trans (congrArg some (by kernel_rfl))
  f20 := Tryz.func134.trans (congrArg some (by kernel_rfl))
  f21 := ⟨Tryz.f124.name, by decide, Tryz.func124.trans (congrArg some (by kernel_rfl))⟩
  f22 := ⟨Tryz.f125.name, by decide, Tryz.func125.trans (congrArg some (by kernel_rfl))⟩
  f23 := ⟨Tryz.f126.name, by decide, Tryz.func126.trans (congrArg some (by kernel_rfl))⟩
  f24 := ⟨Tryz.f127.name, by decide, Tryz.func127.trans (congrArg some (by kernel_rfl))⟩
  f25 := ⟨Tryz.f128.name, by decide, Tryz.func128.trans (congrArg some (by kernel_rfl))⟩
  f26 := ⟨Tryz.f129.name, by decide, Tryz.func129.trans (congrArg some (by kernel_rfl))⟩
  f27 := ⟨Tryz.f130.name, by decide, Tryz.func130.trans (congrArg some (by kernel_rfl))⟩
  f28 := ⟨Tryz.f131.name, by decide, Tryz.func131.trans (congrArg some (by kernel_rfl))⟩
  f29 := ⟨Tryz.f132.name, by decide, Tryz.func132.trans (congrArg some (by kernel_rfl))⟩
  f31 := Tryz.func174.trans (congrArg some (by kernel_rfl))
  f32 := Tryz.func175.trans (congrArg some (by kernel_rfl))
  f36 := ⟨Tryz.f173.name, by decide, Tryz.func173.trans (congrArg some (by kernel_rfl))⟩
  f37 := ⟨Tryz.f176.name, by decide, Tryz.func176.trans (congrArg some (by kernel_rfl))⟩
  f38 := ⟨Tryz.f177.name, by decide, Tryz.func177.trans (congrArg some (by kernel_rfl))⟩
  f39 := ⟨Tryz.f178.name, by decide, Tryz.func178.trans (congrArg some (by kernel_rfl))⟩
  f41 := ⟨Tryz.f192.name, by decide, Tryz.func192.trans (congrArg some (by kernel_rfl))⟩
  t0 := Tryz.underlying0
  a0 := Tryz.isAgg0
  z0 := Tryz.sizeOf0
  v0 := Tryz.zeroValue0
  t3 := Tryz.underlying3
  a3 := Tryz.isAgg3
  z3 := Tryz.sizeOf3
  v3 := Tryz.zeroValue3
  t4 := Tryz.underlying4
  a4 := Tryz.isAgg4
  z4 := Tryz.sizeOf4
  v4 := Tryz.zeroValue4
  t5 := Tryz.underlying5
  a5 := Tryz.isAgg5
  z5 := Tryz.sizeOf5
  v5 := Tryz.zeroValue5
  t9 := Tryz.underlying9
  a9 := Tryz.isAgg9
  z9 := Tryz.sizeOf9
  v9 := Tryz.zeroValue9
  t26 := Tryz.underlying59
  a26 := Tryz.isAgg59
  z26 := Tryz.sizeOf59
  v26 := Tryz.zeroValue59
  t27 := Tryz.underlying59
  a27 := Tryz.isAgg59
  z27 := Tryz.sizeOf59
  v27 := Tryz.zeroValue59
  t29 := Tryz.underlying9
  a29 := Tryz.isAgg9
  z29 := Tryz.sizeOf9
  v29 := Tryz.zeroValue9
  t32 := Tryz.underlying78
  a32 := Tryz.isAgg78
  z32 := Tryz.sizeOf78
  v32 := Tryz.zeroValue78
  t35 := Tryz.underlying178
  a35 := Tryz.isAgg178
  z35 := Tryz.sizeOf178
  v35 := Tryz.zeroValue178
  t36 := Tryz.underlying179
  a36 := Tryz.isAgg179
  z36 := Tryz.sizeOf179
  v36 := Tryz.zeroValue179
  t41 := Tryz.underlying104
  a41 := Tryz.isAgg104
  z41 := Tryz.sizeOf104
  v41 := Tryz.zeroValue104
  t44 := Tryz.underlying185
  a44 := Tryz.isAgg185
  z44 := Tryz.sizeOf185
  v44 := Tryz.zeroValue185
  t46 := Tryz.underlying187
  a46 := Tryz.isAgg187
  z46 := Tryz.sizeOf187
  v46 := Tryz.zeroValue187
  t53 := Tryz.underlying212
  a53 := Tryz.isAgg212
  z53 := Tryz.sizeOf212
  v53 := Tryz.zeroValue212
  t57 := Tryz.underlying216
  a57 := Tryz.isAgg216
  z57 := Tryz.sizeOf216
  v57 := Tryz.zeroValue216
  t63 := Tryz.underlying232
  a63 := Tryz.isAgg232
  z63 := Tryz.sizeOf232
  v63 := Tryz.zeroValue232
  t64 := Tryz.underlying166
  a64 := Tryz.isAgg166
  z64 := Tryz.sizeOf166
  v64 := Tryz.zeroValue166 }
def Tryz.layHasPrefix_ren : Go.Shelf.Ren := ⟨fun | 99 => 82 | 206 => 123 | n => n, fun | 9 => 9 | 4 => 4 | 3 => 3 | n => n, fun | n => n⟩
theorem Tryz.layHasPrefix : Go.Proofs.Lays.n99 Tryz.prog Tryz.layHasPrefix_ren := {
  mixed := by kernel_rfl
  f99 := Tryz.func82.trans (congrArg some (by kernel_rfl))
  f206 := Tryz.func123.trans (congrArg some (by kernel_rfl))
  t3 := Tryz.underlying3
  a3 := Tryz.isAgg3
  z3 := Tryz.sizeOf3
  v3 := Tryz.zeroValue3
  t4 := Tryz.underlying4
  a4 := Tryz.isAgg4
  z4 := Tryz.sizeOf4
  v4 := Tryz.zeroValue4
  t9 := Tryz.underlying9
  a9 := Tryz.isAgg9
  z9 := Tryz.sizeOf9
  v9 := Tryz.zeroValue9 }
def Tryz.layFormatInt_ren : Go.Shelf.Ren := ⟨fun | 173 => 142 | 246 => 182 | 283 => 194 | 284 => 195 | 285 => 196 | 286 => 197 | 129 => 134 | 317 => 208 | 318 => 209 | 319 => 210 | 320 => 211 | 337 => 215 | 338 => 216 | n => n, fun | 2 => 2 | 3 => 3 | 9 => 9 | 4 => 4 | 171 => 234 | 0 => 0 | 53 => 187 | 37 => 140 | 5 => 5 | 173 => 236 | 212 => 252 | 51 => 185 | 20 => 20 | 213 => 253 | 46 => 78 | 232 => 259 | 233 => 260 | n => n, fun | 17 => 3 | 18 => 4 | 19 => 5 | n => n⟩
theorem Tryz.layFormatInt : Go.Proofs.LaysM.n173 Tryz.prog Tryz.layFormatInt_ren := {
  mixed := by kernel_rfl
  f129 := Tryz.func134.trans (congrArg some (by kernel_rfl))
  f173 := Tryz.func142.trans (congrArg some (by kernel_rfl))
  f246 := Tryz.func182.trans (congrArg some (by kernel_rfl))
  f283 := Tryz.func194.trans (congrArg some (by kernel_rfl))
  f284 := Tryz.func195.trans (congrArg some (by kernel_rfl))
  f285 := Tryz.func196.trans (congrArg some (by kernel_rfl))
  f286 := Tryz.func197.trans (congrArg some (by kernel_rfl))
  f317 := Tryz.func208.trans (congrArg some (by kernel_rfl))
  f318 := Tryz.func209.trans (congrArg some (by kernel_rfl))
  f319 := Tryz.func210.trans (congrArg some (by kernel_rfl))
  f320 := Tryz.func211.trans (congrArg some (by kernel_rfl))
  f337 := Tryz.func215.trans (congrArg some (by kernel_rfl))
  f338 := Tryz.func216.trans (congrArg some (by kernel_rfl))
  t0 := Tryz.underlying0
  a0 := Tryz.isAgg0
  z0 := Tryz.sizeOf0
  v0 := Tryz.zeroValue0
  t2 := Tryz.underlying2
  a2 := Tryz.isAgg2
  z2 := Tryz.sizeOf2
  v2 := Tryz.zeroValue2
  t3 := Tryz.underlying3
  a3 := Tryz.isAgg3
  z3 := Tryz.sizeOf3
  v3 := Tryz.zeroValue3
  t4 := Tryz.underlying4
  a4 := Tryz.isAgg4
  z4 := Tryz.sizeOf4
  v4 := Tryz.zeroValue4
  t5 := Tryz.underlying5
  a5 := Tryz.isAgg5
  z5 := Tryz.sizeOf5
  v5 := Tryz.zeroValue5
  t9 := Tryz.underlying9
  a9 := Tryz.isAgg9
  z9 := Tryz.sizeOf9
  v9 := Tryz.zeroValue9
  t20 := Tryz.underlying20
  a20 := Tryz.isAgg20
  z20 := Tryz.sizeOf20
  v20 := Tryz.zeroValue20
  t37 := Tryz.underlying140
  a37 := Tryz.isAgg140
  z37 := Tryz.sizeOf140
  v37 := Tryz.zeroValue140
  t46 := Tryz.underlying78
  a46 := Tryz.isAgg78
  z46 := Tryz.sizeOf78
  v46 := Tryz.zeroValue78
  t51 := Tryz.underlying185
  a51 := Tryz.isAgg185
  z51 := Tryz.sizeOf185
  v51 := Tryz.zeroValue185
  t53 := Tryz.underlying187
  a53 := Tryz.isAgg187
  z53 := Tryz.sizeOf187
  v53 := Tryz.zeroValue187
  t171 := Tryz.underlying234
  a171 := Tryz.isAgg234
  z171 := Tryz.sizeOf234
  v171 := Tryz.zeroValue234
  t173 := Tryz.underlying236
  a173 := Tryz.isAgg236
  z173 := Tryz.sizeOf236
  v173 := Tryz.zeroValue236
  t212 := Tryz.underlying252
  a212 := Tryz.isAgg252
  z212 := Tryz.sizeOf252
  v212 := Tryz.zeroValue252
  t213 := Tryz.underlying253
  a213 := Tryz.isAgg253
  z213 := Tryz.sizeOf253
  t232 := Tryz.underlying259
  a232 := Tryz.isAgg259
  z232 := Tryz.sizeOf259
  v232 := Tryz.zeroValue259
  t233 := Tryz.underlying260
  a233 := Tryz.isAgg260
  z233 := Tryz.sizeOf260
  v233 := Tryz.zeroValue260
  g17 := by kernel_rfl
  g18 := by kernel_rfl
  g19 := by kernel_rfl
  i0 := by kernel_rfl
  i2 := by kernel_rfl
  i3 := by kernel_rfl
  i4 := by kernel_rfl
  i5 := by kernel_rfl
  i9 := by kernel_rfl
  i20 := by kernel_rfl
  i37 := by kernel_rfl
  i46 := by kernel_rfl
  i51 := by kernel_rfl
  i53 := by kernel_rfl
  i171 := by kernel_rfl
  i173 := by kernel_rfl
  i212 := by kernel_rfl
  i232 := by kernel_rfl
  i233 := by kernel_rfl
  m17 := by kernel_rfl
  m18 := by kernel_rfl
  m19 := by kernel_rfl }
def Tryz.layValid_ren : Go.Shelf.Ren := ⟨fun | 196 => 136 | 259 => 179 | n => n, fun | 9 => 9 | 4 => 4 | 3 => 3 | 5 => 5 | 12 => 12 | 119 => 219 | 0 => 0 | 46 => 78 | 139 => 222 | 138 => 221 | 53 => 187 | n => n, fun | 3 => 0 | 4 => 1 | n => n⟩
theorem Tryz.layValid : Go.Proofs.Lays.n196 Tryz.prog Tryz.layValid_ren := {
  mixed := by kernel_rfl
  f196 := Tryz.func136.trans (congrArg some (by kernel_rfl))
  f259 := Tryz.func179.trans (congrArg some (by kernel_rfl))
  t0 := Tryz.underlying0
  a0 := Tryz.isAgg0
  z0 := Tryz.sizeOf0
  v0 := Tryz.zeroValue0
  t3 := Tryz.underlying3
  a3 := Tryz.isAgg3
  z3 := Tryz.sizeOf3
  v3 := Tryz.zeroValue3
  t4 := Tryz.underlying4
  a4 := Tryz.isAgg4
  z4 := Tryz.sizeOf4
  v4 := Tryz.zeroValue4
  t5 := Tryz.underlying5
  a5 := Tryz.isAgg5
  z5 := Tryz.sizeOf5
  v5 := Tryz.zeroValue5
  t9 := Tryz.underlying9
  a9 := Tryz.isAgg9
  z9 := Tryz.sizeOf9
  v9 := Tryz.zeroValue9
  t12 := Tryz.underlying12
  a12 := Tryz.isAgg12
  z12 := Tryz.sizeOf12
  v12 := Tryz.zeroValue12
  t46 := Tryz.underlying78
  a46 := Tryz.isAgg78
  z46 := Tryz.sizeOf78
  v46 := Tryz.zeroValue78
  t53 := Tryz.underlying187
  a53 := Tryz.isAgg187
  z53 := Tryz.sizeOf187
  v53 := Tryz.zeroValue187
  t119 := Tryz.underlying219
  a119 := Tryz.isAgg219
  z119 := Tryz.sizeOf219
  t138 := Tryz.underlying221
  a138 := Tryz.isAgg221
  z138 := Tryz.sizeOf221
  v138 := Tryz.zeroValue221
  t139 := Tryz.underlying222
  a139 := Tryz.isAgg222
  z139 := Tryz.sizeOf222
  v139 := Tryz.zeroValue222
  g3 := by kernel_rfl
  g4 := by kernel_rfl }
theorem Tryz.sorts37 (m : Nat) : AnyZ.SortsIn Tryz.prog Tryz.sorted37_ren Fence.wide m :=
  ⟨fun blk off cap ss W hH hblk hsz => callsIn_wide.2 (AnyM.slices_Sort_string Tryz.sort49 blk off cap ss W hH hblk hsz),
   fun p cap W => callsIn_wide.2 (AnyM.slices_Sort_string_none Tryz.sort49 p cap W)⟩
theorem Tryz.maps_Keys_38 (mb : Option Nat) (W : World) : CallsIn Fence.wide 5 Tryz.prog 38 #[.map mb] W fun e w' => e = .returned (.func (.func 64) #[] #[.pointer (some ⟨W.heap.size, 0, none⟩)]) ∧ w' = W.alloc (.cells #[.map mb] 26) :=
  AnyZ.keys_in Tryz.keys38 Fence.wide 5 trivial rfl mb W
theorem Tryz.slices_Sorted_keys_nil_37_38 (w : World) :
    CallsIn Fence.wide 5 Tryz.prog 37 #[.func (.func 64) #[] #[.pointer (some ⟨w.heap.size, 0, none⟩)]] (w.alloc (.cells #[.map none] 26)) fun e w' => ∃ (v : Value) (ss : List (List UInt8)), e = .returned v ∧ ss = [] ∧
      w'.ownsRow (w.alloc (.cells #[.map none] 26)).heap.size 9 1 v ss.length ((ss.mergeSort (fun x y => decide (x ≤ y))).map encStr) ∧ (v = .slice none 0 0 ↔ ss = []) ∧ Below (w.alloc (.cells #[.map none] 26)).heap.size (w.alloc (.cells #[.map none] 26)) w' := by
  have hseq : SeqGives Fence.wide 2 Tryz.prog 64 #[.pointer (some ⟨w.heap.size, 0, none⟩)] encStr (fun ss : List (List UInt8) => ss = []) 0 (w.alloc (.cells #[.map none] 26)) :=
    AnyZ.keys_gives_nil (ρ := Tryz.keys38_ren) { Tryz.keys38 with } Fence.wide _ trivial rfl w.heap.size _ (by simp) (by simp)
  exact AnyZ.sorted_in Tryz.sorted37 Fence.wide 5 trivial trivial trivial trivial rfl (by omega) (Tryz.sorts37 _) (enters_of Tryz.func49 (by kernel_rfl) rfl) 64 #[.pointer (some ⟨w.heap.size, 0, none⟩)] trivial (enters_of Tryz.func64 (by kernel_rfl) rfl) _ 0 (Nat.zero_le _) (by omega) _ hseq
end Go.Proofs.YtechahocffcbpaaGreatDoor
namespace Go.Proofs.YtechahocffcbpaaGreatDoor
open Go.RowKit Go.Maps Go.Sort Go.Shelf
set_option linter.unusedVariables false
set_option linter.unusedSimpArgs false
abbrev bytesO (k : ByteArray) : List UInt8 := k.data.toList
theorem map_bytesO (ks : List ByteArray) : (ks.map bytesO).map encStr = ks.map .string := by rw [List.map_map]; rfl
theorem less_lt : ∀ x y : List UInt8, Op.bytesLess x y = decide (x < y)
  | [], [] => rfl
  | [], _ :: _ => rfl
  | _ :: _, [] => rfl
  | a :: x, b :: y => by
    rw [Op.bytesLess, less_lt x y]
    by_cases h1 : a < b
    · simp [h1, List.cons_lt_cons_iff]
    · by_cases h2 : a = b
      · subst h2; simp [List.cons_lt_cons_iff]
      · simp [h1, h2, List.cons_lt_cons_iff]
theorem klt_lt (a b : ByteArray) : klt a b = decide (bytesO a < bytesO b) := by
  show Op.bytesLess a.toList b.toList = _
  rw [ByteArray.toList_eq, ByteArray.toList_eq, less_lt]
theorem bytesO_back (ts : List (List UInt8)) : (ts.map fun l => (⟨l.toArray⟩ : ByteArray)).map bytesO = ts := by
  rw [List.map_map]
  exact (List.map_congr_left fun l _ => rfl).trans (List.map_id _)
theorem rise_sorted {ts : List ByteArray} (h : (ts.map bytesO).Pairwise fun x y => decide (x ≤ y) = true) (hn : ts.Nodup) : ts.Pairwise fun x y => klt x y = true := by
  have h2 := List.pairwise_map.1 h
  refine (h2.and hn).imp ?_
  rintro x y ⟨h3, h4⟩
  cases hk : klt x y with
  | true => rfl
  | false =>
    exfalso
    have h5 : klt y x = true := klt_of_not hk h4
    rw [klt_lt, decide_eq_true_eq] at h5
    rw [decide_eq_true_eq] at h3
    exact absurd h3 (by simpa [List.not_le] using h5)
theorem leB_sorted (l : List (List UInt8)) : (l.mergeSort fun x y => decide (x ≤ y)).Pairwise fun x y => decide (x ≤ y) = true :=
  List.pairwise_mergeSort (fun a b c h1 h2 => by simp only [decide_eq_true_eq] at *; exact List.le_trans h1 h2) (fun a b => by simp only [Bool.or_eq_true, decide_eq_true_eq]; exact List.le_total a b) l
theorem sortStr_any {w : World} {base : Nat} {s : Sl} {ks : List ByteArray} (hown : w.ownsRow base 9 1 (.slice s.a ks.length s.c) ks.length (ks.map .string)) (hn : ks.length ≤ 1000000000) :
    Calls Tryz.prog 49 #[.slice s.a ks.length s.c] w fun e w' => e = .returned (.tuple #[]) ∧ ∃ ts : List ByteArray, ts.Perm ks ∧ (ts.map bytesO).Pairwise (fun x y => decide (x ≤ y) = true) ∧ w'.ownsRow base 9 1 (.slice s.a ts.length s.c) ts.length (ts.map .string) ∧ ts.length = ks.length ∧ w.grownBy w' s.row := by
  rcases hown.2 with ⟨hv, h0⟩ | ⟨g, cap, cur, hv, hbg, hg, hnc, hcm, hcs, ht⟩
  · have hk : ks = [] := List.eq_nil_of_length_eq_zero h0
    subst hk
    refine (AnyM.slices_Sort_string_none Tryz.sort49 s.a s.c w).mono ?_
    rintro e w' ⟨rfl, rfl⟩
    exact ⟨rfl, [], List.Perm.refl _, List.Pairwise.nil, hown, rfl, ⟨rfl, rfl, rfl, Nat.le_refl _, fun _ _ _ => rfl⟩⟩
  · injection hv with h1 h2 h3
    obtain ⟨sa, sc⟩ := s
    dsimp only at h1 h3
    subst h1 h3
    have hH : Holds encStr w g 0 (ks.map bytesO).toArray := holds_of_block hg (by rw [map_bytesO, List.length_map]; simpa using ht)
    have hc := AnyM.slices_Sort_string Tryz.sort49 g 0 sc (ks.map bytesO) w hH (Array.getElem?_eq_some_iff.1 hg).1 (by rw [List.length_map]; omega)
    rw [List.length_map] at hc
    refine hc.mono ?_
    rintro e w' ⟨rfl, n, os, rfl⟩
    have hp : ((ks.map bytesO).mergeSort fun x y => decide (x ≤ y)).Perm (ks.map bytesO) := List.mergeSort_perm _ _
    have hlen : ((ks.map bytesO).mergeSort fun x y => decide (x ≤ y)).length = ks.length := by rw [hp.length_eq, List.length_map]
    obtain ⟨ts, hts⟩ : ∃ ts : List ByteArray, ts.map bytesO = (ks.map bytesO).mergeSort fun x y => decide (x ≤ y) := ⟨_, bytesO_back _⟩
    have hlt : ts.length = ks.length := by rw [← hlen, ← hts, List.length_map]
    refine ⟨rfl, ts, ?_, by rw [hts]; exact leB_sorted _, ?_, hlt, by rw [← hts]; exact grownBy_sorted _⟩
    · have hq : (ts.map bytesO).Perm (ks.map bytesO) := by rw [hts]; exact hp
      have := hq.map fun l : List UInt8 => (⟨l.toArray⟩ : ByteArray)
      rw [List.map_map, List.map_map] at this
      rwa [show ((fun l : List UInt8 => (⟨l.toArray⟩ : ByteArray)) ∘ bytesO) = id from rfl, List.map_id, List.map_id] at this
    · rw [← hts, hlt, ← map_bytesO]
      have := ownsRow_sorted (w := w) (base := base) (cap := sc) (n := n) (os := os) (ss := ks.map bytesO) (ts := ts.map bytesO) (by rw [List.length_map, List.length_map, hlt]) hbg hg (by rw [List.length_map]; exact hnc) hcm hcs
      rw [List.length_map] at this
      exact this
end Go.Proofs.YtechahocffcbpaaGreatDoor
namespace Go.Proofs.YtechahocffcbpaaGreatDoor
open Go.RowKit Go.Maps Go.Shelf
set_option linter.unusedVariables false
set_option linter.unusedSimpArgs false
theorem Tryz.infoStringO : (Tryz.prog.info? 9).map (fun i => (i.zero, i.size, i.bytes)) = some (some (.string ByteArray.empty), 1, 16) := by kernel_rfl
def beginsO (p k : ByteArray) : Bool := p.toList.isPrefixOf k.toList
theorem begins_any (w : World) (k p : ByteArray) : Calls Tryz.prog 48 #[.string k, .string p] w fun e w' => e = .returned (.bool (beginsO p k)) ∧ w' = w := by
  have hc : ∀ W, Calls Tryz.prog 82 #[.string k, .string p] W fun e w' => e = .returned (.bool (beginsO p k)) ∧ w' = W := fun W => by
    have := Any.strings_HasPrefix Tryz.layHasPrefix k p W
    unfold beginsO
    rw [ByteArray.toList_eq, ByteArray.toList_eq]
    exact this
  go_enter Tryz.func48, Tryz.ntmps48
  go_wp2_with fail
  refine (hc _).mono ?_
  rintro e w' ⟨rfl, rfl⟩
  go_wp2_with fail
  go_ret
  exact ⟨rfl, rfl⟩
structure CollP (w : World) (B : Nat) (ks : List ByteArray) (s : Sl) (W : World) : Prop where
  blk : Blk W B 59 #[.slice s.a ks.length s.c]
  own : W.ownsRow (w.heap.size + 2) 9 1 (.slice s.a ks.length s.c) ks.length (ks.map .string)
  sb : Sb (fun b => b = B) w W
  sz : w.heap.size + 2 ≤ W.heap.size
section
variable {w W W' : World} {B : Nat} {ks : List ByteArray} {s : Sl}
theorem CollP.row (h : CollP w B ks s W) {b : Nat} (hb : s.row = some b) : w.heap.size + 2 ≤ b ∧ b < W.heap.size := own_row h.own hb
theorem CollP.keep {G : Nat → Prop} (h : CollP w B ks s W) (k : Sb G W W') (hB : ¬ G B) (hr : ∀ b, s.row = some b → ¬ G b) (hG : ∀ b, G b → w.heap.size ≤ b) : CollP w B ks s W' :=
  ⟨k.blk h.blk hB, own_agree h.own k.agree fun b hb => ⟨(h.row hb).2, hr b hb⟩, h.sb.comp k fun i hi hg => by have := hG i hg; omega, Nat.le_trans h.sz k.size⟩
theorem CollP.ext (h : CollP w B ks s W) (k : Ext W W') : CollP w B ks s W' := h.keep (k.sb fun _ => False) (fun e => e) (fun _ _ e => e) fun _ e => e.elim
theorem CollP.start (hb : Blk w B 59 #[.slice none 0 0]) (hx : Ext w W) (hz : w.heap.size + 2 ≤ W.heap.size) : CollP w B [] Sl.none W :=
  ⟨hb.ext hx, World.ownsRow_nil _ _ _ _, hx.sb _, hz⟩
theorem CollP.snoc {W4 w5 : World} {s3 : Sl} {x : ByteArray} (hB : B < w.heap.size) (h : CollP w B ks s W) (hx : Ext W W4) (hown : w5.ownsRow (w.heap.size + 2) 9 1 (.slice s3.a (ks.length + 1) s3.c) (ks.length + 1) (ks.map .string ++ [.string x])) (hwr : Wr W4 w5 s.row) (hs3 : s3.a = s.a ∨ s3.a = some ⟨W4.heap.size, 0, none⟩ ∧ Wr W4 w5 none) :
    CollP w B (ks ++ [x]) s3 (w5.setCell ⟨B, 0, none⟩ (.slice s3.a (ks.length + 1) s3.c)) ∧ St (fun b => b = B ∨ s.row = some b) W (w5.setCell ⟨B, 0, none⟩ (.slice s3.a (ks.length + 1) s3.c)) ∧ (∀ b, s3.row = some b → s.row = some b ∨ W.heap.size ≤ b) ∧ (∀ b, (b = B ∨ s3.row = some b) → b < (w5.setCell ⟨B, 0, none⟩ (.slice s3.a (ks.length + 1) s3.c)).heap.size) := by
  have h0 := h.sb.size
  have h1 := hx.size
  have h2 := hwr.grown.size
  have hz := h.sz
  have hrow : ∀ b, s3.row = some b → s.row = some b ∨ W4.heap.size ≤ b := fun b hb => by
    rcases hs3 with e | ⟨e, -⟩
    · exact .inl (by rw [← hb]; simp [Sl.row, e])
    · right; rw [Sl.row, e] at hb; simp at hb; omega
  have hset : St (fun b => b = B) w5 (w5.setCell ⟨B, 0, none⟩ (.slice s3.a (ks.length + 1) s3.c)) := (St.refl (fun b => b = B) w5).set (p := ⟨B, 0, none⟩) (.inr rfl) _
  have h45 : St (fun b => s.row = some b) W4 w5 := hwr.st fun i hi => hi
  have hall : St (fun b => b = B ∨ s.row = some b) W (w5.setCell ⟨B, 0, none⟩ (.slice s3.a (ks.length + 1) s3.c)) := ((hx.st _).trans (h45.mono fun i _ hi => .inr hi)).trans (hset.mono fun i _ hi => .inl hi)
  have hBr : ¬ s.row = some B := fun e => by have := (h.row e).1; omega
  have hxl : (ks ++ [x]).length = ks.length + 1 := by simp
  have hr5 : ∀ b, s3.row = some b → b < w5.heap.size := fun b hb => (own_row hown hb).2
  refine ⟨⟨?_, ?_, ?_, by rw [World.size_setCell]; omega⟩, hall, fun b hb => (hrow b hb).imp id fun e => by omega, fun b hb => ?_⟩
  · rw [hxl]; exact (h45.blk (h.blk.ext hx) hBr).set_ 0 _
  · rw [hxl, List.map_append]
    exact own_agree hown hset.agree fun b hb => ⟨hr5 b hb, fun e => by
      rcases hrow b hb with h | h
      · exact hBr (by rw [h, e])
      · omega⟩
  · exact h.sb.comp hall.sb fun i hi e => by
      rcases e with e | e
      · exact e
      · have := (h.row e).1; omega
  · rw [World.size_setCell]
    rcases hb with e | e
    · omega
    · exact hr5 b e
end
def ownP (C : AL SV) (pre : List LE) : List ByteArray := (pre.filter fun x => (getA C x.k).isNone).map LE.k
theorem ownP_yes {C : AL SV} {pre : List LE} {x : LE} (h : getA C x.k = none) : ownP C (pre ++ [x]) = ownP C pre ++ [x.k] := by
  unfold ownP; rw [List.filter_append, List.map_append, List.filter_cons, if_pos (by rw [h]; rfl)]; rfl
theorem ownP_no {C : AL SV} {pre : List LE} {x : LE} {s : SV} (h : getA C x.k = some s) : ownP C (pre ++ [x]) = ownP C pre := by
  unfold ownP; rw [List.filter_append, List.map_append, List.filter_cons, if_neg (by rw [h]; simp)]; simp
theorem ownP_len (C : AL SV) (pre : List LE) : (ownP C pre).length ≤ pre.length := by
  unfold ownP; rw [List.length_map]; exact List.length_filter_le _ _
def hitO (C : AL SV) (p k : ByteArray) : Bool := match getA C k with
  | some s => s.has && beginsO p k
  | none => false
abbrev textO (l : List UInt8) : ByteArray := ⟨l.toArray⟩
def hitsP (C : AL SV) (p : ByteArray) (ss : List (List UInt8)) : List ByteArray := (ss.map textO).filter (hitO C p)
theorem hitsP_yes {C : AL SV} {p : ByteArray} {ss : List (List UInt8)} {x : List UInt8} (h : hitO C p (textO x) = true) : hitsP C p (ss ++ [x]) = hitsP C p ss ++ [textO x] := by
  unfold hitsP; rw [List.map_append, List.filter_append, List.map_singleton, List.filter_cons, if_pos h]; rfl
theorem hitsP_no {C : AL SV} {p : ByteArray} {ss : List (List UInt8)} {x : List UInt8} (h : hitO C p (textO x) = false) : hitsP C p (ss ++ [x]) = hitsP C p ss := by
  unfold hitsP; rw [List.map_append, List.filter_append, List.map_singleton, List.filter_cons, if_neg (by rw [h]; simp)]; simp
theorem hitsP_len (C : AL SV) (p : ByteArray) (ss : List (List UInt8)) : (hitsP C p ss).length ≤ ss.length := by
  unfold hitsP
  have := List.length_filter_le (hitO C p) (ss.map textO)
  rwa [List.length_map] at this
theorem strKeys_mapA (C : AL SV) : strKeys (mapA SV.val C) = C.map fun q => bytesO q.1 := by
  show (C.map (entA SV.val)).map _ = _
  rw [List.map_map]; rfl
theorem klt_ne {a b : ByteArray} (h : klt a b = true) : a ≠ b := fun e => by rw [e, klt_irrefl] at h; cases h
theorem pre_all {d : OD} {p : ByteArray} (hs : Sorted (entsT d.T)) (hC : SortedA d.C) {xs : List LE} (hx : xs.map LE.ent = prefixE p (entsT d.T)) {ss : List (List UInt8)} (hp : ss.Perm (d.C.map fun q => bytesO q.1)) :
    (ownP d.C xs ++ hitsP d.C p ss).Nodup ∧ ∀ k, k ∈ ownP d.C xs ++ hitsP d.C p ss ↔ (beginsO p k = true ∧ (d.now k).isSome = true) := by
  have hsp : (prefixE p (entsT d.T)).Pairwise fun a b => klt a.1 b.1 = true := hs.sublist (List.filter_sublist ..)
  rw [← hx] at hsp
  have hk1 : (xs.map LE.k).Pairwise fun a b => klt a b = true := List.pairwise_map.2 (List.pairwise_map.1 hsp)
  have hn1 : (ownP d.C xs).Nodup := ((List.pairwise_map.2 ((List.pairwise_map.1 hk1).sublist (List.filter_sublist ..))).imp fun h => klt_ne h)
  have hnC : (d.C.map fun q => bytesO q.1).Nodup := List.pairwise_map.2 (hC.imp fun {a b} h (e : bytesO a.1 = bytesO b.1) => klt_ne h (congrArg textO e : textO (bytesO a.1) = textO (bytesO b.1)))
  have hns : (ss.map textO).Nodup := List.pairwise_map.2 ((hp.nodup_iff.2 hnC).imp fun {a b} h (e : textO a = textO b) => h (congrArg bytesO e : bytesO (textO a) = bytesO (textO b)))
  have hn2 : (hitsP d.C p ss).Nodup := hns.sublist (List.filter_sublist ..)
  have hm1 : ∀ k, k ∈ ownP d.C xs ↔ (beginsO p k = true ∧ (getE (entsT d.T) k).isSome = true ∧ getA d.C k = none) := fun k => by
    have hmem : ∀ (e : Ent), e ∈ xs.map LE.ent ↔ (e ∈ entsT d.T ∧ beginsO p e.1 = true) := fun e => by rw [hx]; exact List.mem_filter
    unfold ownP
    rw [List.mem_map]
    constructor
    · rintro ⟨x, hx', rfl⟩
      obtain ⟨h1, h2⟩ := List.mem_filter.1 hx'
      obtain ⟨h3, h4⟩ := (hmem x.ent).1 (List.mem_map_of_mem h1)
      exact ⟨h4, by have := getE_mem hs h3; rw [show x.ent.1 = x.k from rfl] at this; rw [this]; rfl, Option.isNone_iff_eq_none.1 h2⟩
    · rintro ⟨h1, h2, h3⟩
      obtain ⟨v, hv⟩ := Option.isSome_iff_exists.1 h2
      obtain ⟨x, hx', he⟩ := List.mem_map.1 ((hmem (k, v)).2 ⟨mem_getE hv, h1⟩)
      have hxk : x.k = k := congrArg Prod.fst he
      exact ⟨x, List.mem_filter.2 ⟨hx', by rw [hxk, h3]; rfl⟩, hxk⟩
  have hm2 : ∀ k, k ∈ hitsP d.C p ss ↔ hitO d.C p k = true := fun k => by
    unfold hitsP
    rw [List.mem_filter]
    refine ⟨fun h => h.2, fun h => ⟨?_, h⟩⟩
    unfold hitO at h
    cases hg : getA d.C k with
    | none => rw [hg] at h; cases h
    | some s =>
      have h5 : bytesO k ∈ ss := hp.mem_iff.2 (List.mem_map.2 ⟨(k, s), getA_some hg, rfl⟩)
      exact List.mem_map.2 ⟨bytesO k, h5, rfl⟩
  refine ⟨List.nodup_append.2 ⟨hn1, hn2, fun a ha b hb e => ?_⟩, fun k => ?_⟩
  · subst e
    have h1 := ((hm1 a).1 ha).2.2
    have h2 := (hm2 a).1 hb
    unfold hitO at h2
    rw [h1] at h2; cases h2
  · rw [List.mem_append, hm1, hm2]
    unfold hitO
    cases hg : getA d.C k with
    | none => rw [now_none hg]; simp
    | some s =>
      rw [now_some hg]
      unfold SV.opt
      cases hh : s.has <;> cases beginsO p k <;> simp [hh]
theorem at_some {C : AL SV} {x : List UInt8} {yd : DataW Value} {yp : List MemPlace} {c : Value} (hat : ∀ zd, (mapA SV.val C).atKey (.string x) zd = yd) (hv : heldR c = some (yd, yp)) : ∃ sv, getA C (textO x) = some sv ∧ c = sv.val := by
  have h1 := at_mapA SV.val C (textO x)
  cases hg : getA C (textO x) with
  | none =>
    simp only [hg] at h1
    have a := (h1 .nil).symm.trans (hat .nil)
    have b := (h1 (.held (.bool true))).symm.trans (hat _)
    rw [← a] at b
    cases b
  | some s =>
    simp only [hg] at h1
    have a := (h1 .nil).symm.trans (hat .nil)
    rw [← a] at hv
    exact ⟨s, rfl, heldR_inv hv⟩
theorem hitO_eq {C : AL SV} {p k : ByteArray} {s : SV} (h : getA C k = some s) : hitO C p k = (s.has && beginsO p k) := by unfold hitO; rw [h]
theorem nodup_leO {α : Type} [DecidableEq α] : ∀ {ss l : List α}, ss.Nodup → (∀ x ∈ ss, x ∈ l) → ss.length ≤ l.length
  | [], l, _, _ => Nat.zero_le _
  | a :: ss, l, hn, hs => by
    have ha := hs a (List.mem_cons_self ..)
    have hn' := List.nodup_cons.1 hn
    have := nodup_leO (ss := ss) (l := l.erase a) hn'.2 fun x hx => (List.mem_erase_of_ne (fun e => hn'.1 (by rw [← e]; exact hx))).2 (hs x (List.mem_cons_of_mem _ hx))
    have he := List.length_erase_of_mem ha
    have : 0 < l.length := List.length_pos_of_mem ha
    simp only [List.length_cons]
    omega
theorem collected_short {C : AL SV} {left : Lit → Bool} {ss : List (List UInt8)} (h : Collected (mapA SV.val C) left ss) : ss.length ≤ C.length := by
  have h2 := nodup_leO (l := C.map fun q => bytesO q.1) h.1 fun x hx => by
    have := ((h.2 x).1 hx).1
    rw [show Lit.string x = keyS (textO x) from rfl, has_mapA] at this
    obtain ⟨s, hs⟩ := Option.isSome_iff_exists.1 this
    exact List.mem_map.2 ⟨(textO x, s), getA_some hs, rfl⟩
  rwa [List.length_map] at h2
def PrePostO (d : OD) (p : ByteArray) (w : World) (e : Ending) (w' : World) : Prop :=
  ∃ (s : Sl) (ks : List ByteArray), e = .returned (.slice s.a ks.length s.c) ∧ Nw w w' ∧ Rd w' (In w.heap.size w'.heap.size) 1 s ks.length (ks.map .string) ∧ ks.Pairwise (fun x y => klt x y = true) ∧ ∀ k, k ∈ ks ↔ (beginsO p k = true ∧ (d.now k).isSome = true)
theorem pre_end {d : OD} {p : ByteArray} {w w1 W w5 w6 : World} {B : Nat} {s : Sl} {ks ts : List ByteArray} (h1 : Nw w w1) (hB : w.heap.size ≤ B) (hc : CollP w1 B ks s W) (hn : ks.Nodup) (hm : ∀ k, k ∈ ks ↔ (beginsO p k = true ∧ (d.now k).isSome = true))
    (hp : ts.Perm ks) (hs : (ts.map bytesO).Pairwise fun x y => decide (x ≤ y) = true) (ho : w5.ownsRow (w1.heap.size + 2) 9 1 (.slice s.a ts.length s.c) ts.length (ts.map .string)) (hg : W.grownBy w5 s.row) {D : Nat} (h6 : Sb (fun b => b = D) w5 w6) (hD : w1.heap.size = D) :
    PrePostO d p w (.returned (.slice s.a ts.length s.c)) w6 := by
  have hz := h1.size
  have h5 : Sb (fun b => s.row = some b) W w5 := ⟨hg.os, hg.tape, hg.output, hg.size, fun i hi hn => hg.block i hi fun e => hn e.symm⟩
  refine ⟨s, ts, rfl, ?_, ?_, rise_sorted hs (hp.nodup_iff.2 hn), fun k => (hp.mem_iff).trans (hm k)⟩
  · have h15 : Sb (fun b => B = b ∨ w1.heap.size ≤ b) w1 w6 := ((hc.sb.mono fun i _ e => .inl e.symm).trans (h5.mono fun i _ e => .inr (by have := (hc.row e).1; omega))).trans (h6.mono fun i _ e => .inr (by omega))
    exact ((h1.any (fun b => w.heap.size ≤ b)).comp h15 fun i hi e => by rcases e with e | e <;> omega).mono fun i hi e => by omega
  · have hrow : ∀ b, s.row = some b → w1.heap.size + 2 ≤ b ∧ b < w5.heap.size := fun b hb => own_row ho hb
    have ho6 := own_agree ho h6.agree fun b hb => ⟨(hrow b hb).2, fun e => by have := (hrow b hb).1; omega⟩
    exact (Rd.of_own ho6).mono fun i hi => ⟨by have := hi.1; omega, hi.2⟩
end Go.Proofs.YtechahocffcbpaaGreatDoor
namespace Go.Proofs.YtechahocffcbpaaGreatDoor
open Go.RowKit Go.Maps Go.Shelf Go.Sort
set_option linter.unusedVariables false
set_option linter.unusedSimpArgs false
attribute [local go_sem] Oper.semAt_some
theorem run_range_nilO (w : World) : (Instr.range 26 (.map none)).run Tryz.prog w = .ok (.pointer (some ⟨w.heap.size, 0, none⟩)) (w.alloc (.mapIter none 0 #[] 0)) := by
  simp [Instr.range, run_underlying Tryz.underlying26, newObj, Sem.run_bind, Sem.run_pure, Result.andThen]
  rfl
theorem run_next_nilO {w : World} {r : Nat} (h : w.heap[r]? = some (.mapIter none 0 #[] 0)) (ty : TypeId) : (Instr.next (.pointer (some ⟨r, 0, none⟩)) false ty).run Tryz.prog w = .ok (.tuple #[.bool false]) w := by
  have hg : (getObj r).run Tryz.prog w = .ok (.mapIter none 0 #[] 0) w := by simp [getObj, Sem.run, h]
  unfold Instr.next
  simp only [Sem.run_bind, Sem.run_pure, Result.andThen_ok, hg]
theorem ranges_keepO {H : Type} {P : Program} {k : TypeId} {R : Value → Option (DataW H × List MemPlace)} {w w' : World} {b r n : Nat} {D : DataW H} {left : Lit → Bool} {cnt : Nat} (h : w.ranges P k R b r n D left cnt) (hb : w'.heap[b]? = w.heap[b]?) (hr : w'.heap[r]? = w.heap[r]?) : w'.ranges P k R b r n D left cnt := by
  obtain ⟨es, clock, since, seen, c0, h1, h2, h3, h4, h5, h6⟩ := h
  exact ⟨es, clock, since, seen, c0, hb.trans h1, h2, h3, h4, hr.trans h5, h6⟩
theorem ranges_ltO {H : Type} {P : Program} {k : TypeId} {R : Value → Option (DataW H × List MemPlace)} {w : World} {b r n : Nat} {D : DataW H} {left : Lit → Bool} {cnt : Nat} (h : w.ranges P k R b r n D left cnt) : b < w.heap.size ∧ r < w.heap.size ∧ (∀ t cs, ¬ Blk w b t cs) := by
  obtain ⟨es, clock, since, seen, c0, h1, h2, h3, h4, h5, h6⟩ := h
  refine ⟨(Array.getElem?_eq_some_iff.1 h1).1, (Array.getElem?_eq_some_iff.1 h5).1, fun t cs hb => ?_⟩
  have hb : w.heap[b]? = some (.cells cs t (0, 0)) := hb
  rw [h1] at hb; cases hb
structure PreL (w1 : World) (B r b D : Nat) (C : AL SV) (p : ByteArray) (ks1 : List ByteArray) (left : Lit → Bool) (cnt : Nat) (ss : List (List UInt8)) (s : Sl) (wr : World) : Prop where
  col : CollP w1 B (ks1 ++ hitsP C p ss) s wr
  rg : wr.ranges Tryz.prog 9 heldR b r C.length (mapA SV.val C) left cnt
  co : Collected (mapA SV.val C) left ss
  ne : s.row ≠ some r
  dk : wr.heap[D]? = some (.deferred (some []))
theorem prefix_ov {H : Nat → Prop} {w : World} {O : Nat} {d : OD} (h : OvAt H w O d) (hl : (entsT d.T).length ≤ 1000000) (hn : d.us.length ≤ 1000000) {p : ByteArray} (hp : p.size ≤ maxLen) :
    Calls Tryz.prog 22 #[.pointer (some ⟨O, 0, none⟩), .string p] w (PrePostO d p w) := by
  obtain ⟨i0, hi, hz0, hz1, hz2⟩ := info_parts Tryz.infoStringO
  have hF : ∀ b, OvF H w O d b → b < w.heap.size := fun b hb => hb.1
  have hra := fun W => prefix_any W d.T p hp
  have hse := fun W1 (hA : Agree (Lt w.heap.size) w W1) (hz : w.heap.size ≤ W1.heap.size) B lo hi op (hB : RangeB W1 B d.T lo hi op) => range_seq (lo := lo) (hi := hi) (op := op) (show TreeAt (OvF H w O d) d.T W1 from ⟨h.tree.agree (hA.mono hF), fun b hb => Nat.lt_of_lt_of_le (hF b hb) hz⟩) h.ok hl hB
  obtain ⟨r, hpr⟩ := rootV_ptr d.T
  simp only [treeV, hpr] at hra
  have c0 : w.cell? ⟨O, 0, none⟩ = some (.pointer r) := by rw [← hpr]; exact h.blk.cell 0
  have lO := h.blk.lt
  have l1 : O < w.heap.size + 1 := by omega
  have HAT := Lib.hid h
  have HFL := Lib.hid hF
  have HRA := Lib.hid hra
  have HSE := Lib.hid hse
  clear h hF hra hse hpr
  refine (callsIn_wide (n := 6)).1 ?_
  refine callsIn_of_wp_marks Tryz.func22 rfl trivial ?_ rfl
  simp only [Tryz.ntmps22, List.size_toArray, List.length_cons, List.length_nil, Nat.reduceAdd, Nat.reduceSub, Array.replicate_succ, Array.replicate_zero, List.push_toArray, List.append_toArray, List.nil_append, List.cons_append]
  gi_wp2_with fail
  generalize hW0 : World.alloc (World.alloc _ _) _ = W0
  obtain ⟨hx0, hz0', hb0, hb1⟩ := two_blocks w _ _ _ _ W0 hW0
  have HX0 := Lib.hid hx0
  have HB0 := Lib.hid hb0
  have HB1 := Lib.hid hb1
  clear hW0 hx0 hb0 hb1
  refine ⟨trivial, ?_⟩
  refine (callsIn_wide.2 (HRA.out W0)).mono ?_
  rintro e w1 ⟨B, en, op, rfl, hbw, hrb, hB, hpe⟩
  have hbw1 := Bw.trans HX0.out.below hbw
  have hn1 : Nw w w1 := (Nw.of HX0.out).trans (Sb.new hbw)
  have HOV := Lib.hid (HAT.out.nw hn1)
  have hC0 : Blk w1 w.heap.size 43 #[.pointer (some ⟨O, 0, none⟩)] := HB0.out.agree (Agree.of_below hbw (F := Lt W0.heap.size) fun _ h => h) (by show _ < _; omega)
  have hC1 : Blk w1 (w.heap.size + 1) 59 #[.slice none 0 0] := HB1.out.agree (Agree.of_below hbw (F := Lt W0.heap.size) fun _ h => h) (by show _ < _; omega)
  have HSQ := Lib.hid (HSE.out w1 (Agree.of_below hbw1 (F := Lt w.heap.size) fun _ h => h) hbw1.size B p en op hrb)
  have HN1 := Lib.hid hn1
  have HC0 := Lib.hid hC0
  have HC1 := Lib.hid hC1
  have HPE := Lib.hid (hpe (entsT d.T))
  have hBl := hrb.lt
  have hs1 := hbw1.size
  have hl0 : w.heap.size < w1.heap.size := hC0.lt
  have hl1 : w.heap.size + 1 < w1.heap.size := hC1.lt
  clear hbw hrb HRA HSE hbw1 hC0 hC1 hpe HB0 HB1 hn1
  rw [HPE.out] at HSQ
  gi_wp2_with fail
  refine wpIn_rangeC (gf := 120) (lb := rangeL B) rfl (enters_of Tryz.func120 (by kernel_rfl) rfl) HSQ.out (Agree.refl _) (Nat.le_refl _)
    (fun b hb => hb.elim (fun h => by have := HFL.out b h; omega) (fun h => by omega)) (fun _ => rfl)
    (fun pre C W => ∃ s : Sl, C = (fun b => b = w.heap.size + 1 ∨ s.row = some b) ∧ CollP w1 (w.heap.size + 1) (ownP d.C pre) s W) (fun _ _ _ => False) (fun b => b = w.heap.size + 1)
    (fun b hb => ⟨by omega, fun h => h.elim (fun h => by have := HFL.out b h; omega) (fun h => by omega)⟩)
    (fun h k => ?turn) (fun h k => h) (fun W hW hz => ⟨Sl.none, by funext b; simp [Sl.row], CollP.start HC1.out hW hz⟩) ?round ?done ?stop
  case turn =>
    obtain ⟨s, e, hc⟩ := h
    exact ⟨s, e, hc.keep k.sb (by omega) (fun b hb => by have := (hc.row hb).1; omega) fun b hb => by omega⟩
  case stop =>
    rintro D c pre W hD hSp hX hDk
    exact hX.elim
  case round =>
    rintro pre C x W0' W1 ⟨s, rfl, hcp⟩ hlt hsz hnL hx01 hG
    obtain ⟨ks, hks⟩ : ∃ ks, ownP d.C pre = ks := ⟨_, rfl⟩
    have hkl : ks.length < 1000000 := by
      have h1 := (List.getElem?_eq_some_iff.1 hG.at_).1
      have h2 := ownP_len d.C pre
      have h3 : (prefixE p (entsT d.T)).length ≤ 1000000 := Nat.le_trans (List.length_filter_le _ _) hl
      rw [← hks]; omega
    have hkm := hG.key
    rw [hks] at hcp
    have hcp1 := hcp.ext hx01
    have HCP := Lib.hid hcp1
    have HKS := Lib.hid hks
    clear hcp hcp1 hx01 hG hnL hlt hks
    gi_wp2_with fail
    refine ⟨Ext.refl _, fun W3 k3 => ?_⟩
    have hcp3 := HCP.out.keep k3.sb (by omega) (fun b hb => by have := (HCP.out.row hb).1; omega) fun b hb => by omega
    have hsb3 := hcp3.sb
    have q0 : W3.cell? ⟨w.heap.size, 0, none⟩ = some (.pointer (some ⟨O, 0, none⟩)) := (hsb3.blk HC0.out (by omega)).cell 0
    have q1 : W3.cell? ⟨O, 1, none⟩ = some (.map d.mb) := (hsb3.blk HOV.out.blk (by omega)).cell 1
    have lq : O < W3.heap.size := (hsb3.blk HOV.out.blk (by omega)).lt
    have hmap : OvMap W3 d.mb d.C := HOV.out.map.heap fun b hb => hsb3.block b (HOV.out.map.lt hb) fun e => by have := HAT.out.map.lt hb; omega
    have hlk := look_ov hmap hkm
    have HCP3 := Lib.hid hcp3
    have hrow3 : ∀ b, s.row = some b → w1.heap.size + 2 ≤ b ∧ b < W3.heap.size := fun b hb => hcp3.row hb
    have c3 : W3.cell? ⟨w.heap.size + 1, 0, none⟩ = some (.slice s.a ks.length s.c) := hcp3.blk.cell 0
    have f3 : W3.frozen? ⟨w.heap.size + 1, 0, none⟩ = false := hcp3.blk.frozen 0
    have l3 := hcp3.blk.lt
    cases hg : getA d.C x.k with
    | some sv =>
      rw [hg, show hadA d.C x.k = sv by rw [hadA, hg]; rfl] at hlk
      obtain ⟨has, v, sl, so⟩ := sv
      have HG := Lib.hid hg
      clear hg hcp3 hsb3 hmap
      gi_wp2_with fail
      have hx4 := (Ext.refl W3).alloc #[.bool has, .int .i64 v.kind, .bool v.b, .int .i64 v.i, .string v.t, .slice sl.a v.l.length sl.c, .slice so.a v.ok.length so.c] 85
      exact ⟨_, ⟨s, rfl, by rw [ownP_no HG.out, HKS.out]; exact HCP3.out.ext hx4⟩, hx4.st _, fun b hb => .inl hb, fun b hb => by
        have := hx4.size
        rcases hb with e | e
        · omega
        · have := (hrow3 b e).2; omega⟩
    | none =>
      rw [hg, show hadA d.C x.k = zeroSV by rw [hadA, hg]; rfl] at hlk
      have hx34 : Ext W3 ((W3.alloc (.cells #[.bool false, .int .i64 0, .bool false, .int .i64 0, .string ByteArray.empty, .slice none 0 0, .slice none 0 0] 85)).alloc (.cells #[.string x.k] 9)) := ((Ext.refl W3).alloc _ _).alloc _ _
      have hown4 := own_agree hcp3.own (hx34.agree (F := Lt W3.heap.size) fun b hb => hb) fun b hb => (hrow3 b hb).2
      have h63 : ks.length + 1 ≤ maxLen := by unfold maxLen; omega
      have hby : (ks.length + 1) * 16 ≤ 140737488355328 := by omega
      have hs3 := hcp3.sb.size
      have hbase : w1.heap.size + 2 ≤ ((W3.alloc (.cells #[.bool false, .int .i64 0, .bool false, .int .i64 0, .string ByteArray.empty, .slice none 0 0, .slice none 0 0] 85)).alloc (.cells #[.string x.k] 9)).heap.size := by have := hcp3.sz; simp; omega
      have HX34 := Lib.hid hx34
      have HOWN4 := Lib.hid hown4
      have HBN := Lib.hid (show Blk ((W3.alloc (.cells #[.bool false, .int .i64 0, .bool false, .int .i64 0, .string ByteArray.empty, .slice none 0 0, .slice none 0 0] 85)).alloc (.cells #[.string x.k] 9)) (W3.heap.size + 1) 9 #[.string x.k] by
        have := Blk.new (W3.alloc (.cells #[.bool false, .int .i64 0, .bool false, .int .i64 0, .string ByteArray.empty, .slice none 0 0, .slice none 0 0] 85)) 9 #[.string x.k]
        rwa [World.size_alloc] at this)
      have hWB : ¬ w.heap.size + 1 = W3.heap.size := by omega
      have hWB2 : ¬ w.heap.size + 1 = W3.heap.size + 1 := by omega
      have l3' : w.heap.size + 1 < W3.heap.size + 1 := by omega
      have f3X := Lib.hid ((hx34.frozen (o := 0) l3).trans f3)
      have hrB : s.row ≠ some (w.heap.size + 1) := fun e => by have := (hrow3 _ e).1; omega
      have HG := Lib.hid hg
      clear hg hcp3 hsb3 hmap hx34 hown4
      gi_wp2_with (gi_at_builtin; refine wpListIn_append_x _ rfl (.tmp 32) (.tmp 34) 59 rfl (w1.heap.size + 2) 9 i0 _ 1 16 Tryz.underlying59 hi hz0 hz1 hz2 rfl (by decide) s ks.length (ks.map .string) rfl HOWN4.out (fun b => b = W3.heap.size + 1) ⟨some ⟨W3.heap.size + 1, 0, none⟩, 1⟩ 1 [.string x.k] rfl (Rd.block HBN.out (by decide) rfl) (by simp [Value.oneCell']) h63 hby hbase ?_; intro s3 w5 hown5 hwr5 hs5; have h5 := hwr5.cell0 (o := 0) HX34.out hrB l3; have c5 : w5.cell? ⟨w.heap.size + 1, 0, none⟩ = some (.slice s.a ks.length s.c) := h5.1.trans c3; have l5 := h5.2; have f5 : w5.frozen? ⟨w.heap.size + 1, 0, none⟩ = false := (hwr5.fz _ _).trans (f3X.out); have HO5 := Lib.hid hown5; have HW5 := Lib.hid hwr5; have HS5 := Lib.hid hs5; clear hown5 hwr5 hs5 h5)
      obtain ⟨e1, e2, e3, e4⟩ := HCP3.out.snoc hl1 HX34.out HO5.out HW5.out HS5.out
      exact ⟨_, ⟨s3, rfl, by rw [ownP_yes HG.out, HKS.out]; exact e1⟩, e2, fun b hb => by
        rcases hb with e | e
        · exact .inl (.inl e)
        · exact (e3 b e).imp .inr id, e4⟩
  case done =>
    rintro D xs C W hD hS ⟨s, rfl, hcp⟩ hDk
    have hsb := hcp.sb
    have q0 : W.cell? ⟨w.heap.size, 0, none⟩ = some (.pointer (some ⟨O, 0, none⟩)) := (hsb.blk HC0.out (by omega)).cell 0
    have q1 : W.cell? ⟨O, 1, none⟩ = some (.map d.mb) := (hsb.blk HOV.out.blk (by omega)).cell 1
    have lq : O < W.heap.size := (hsb.blk HOV.out.blk (by omega)).lt
    have l0 : w.heap.size < W.heap.size := (hsb.blk HC0.out (by omega)).lt
    have hmap : OvMap W d.mb d.C := HOV.out.map.heap fun b hb => hsb.block b (HOV.out.map.lt hb) fun e => by have := HAT.out.map.lt hb; omega
    have hlen1 : (ownP d.C xs).length ≤ 1000000 := by
      have h1 := ownP_len d.C xs
      have h2 : (xs.map LE.ent).length = (prefixE p (entsT d.T)).length := by rw [hS]
      have h3 : (prefixE p (entsT d.T)).length ≤ 1000000 := Nat.le_trans (List.length_filter_le _ _) hl
      rw [List.length_map] at h2; omega
    have hDl := (Array.getElem?_eq_some_iff.1 hDk).1
    have HCP := Lib.hid hcp
    have HS := Lib.hid hS
    have HDK := Lib.hid hDk
    have HMAP := Lib.hid hmap
    have HD := Lib.hid hD
    clear hcp hS hDk hmap hsb hD
    obtain ⟨mb, hmb⟩ : ∃ mb, d.mb = mb := ⟨_, rfl⟩
    rw [hmb] at q1
    have HMB := Lib.hid hmb
    clear hmb
    rcases mb with _ | b
    · have hr0 := fun w => run_range_nilO w
      gi_wp2_with fail
      generalize hWW : World.alloc W _ = WW
      have hiter : WW.heap[W.heap.size]? = some (.mapIter none 0 #[] 0) := by rw [← hWW]; exact heap_alloc_new W _
      have hsw : Nw W WW := by rw [← hWW]; exact Sb.made (World.grownBy_alloc _ _ _)
      have hCe : d.C = [] := by have := HMAP.out; rw [HMB.out] at this; exact this
      have hall := pre_all (p := p) (ss := []) HAT.out.ok.sorted HAT.out.sorted HS.out (by rw [hCe]; exact List.Perm.nil)
      have hcw := HCP.out.keep (hsw.any (fun _ => False)) (fun e => e) (fun _ _ e => e) (fun _ e => e.elim)
      obtain ⟨ks, hks⟩ : ∃ ks, ownP d.C xs = ks := ⟨_, rfl⟩
      rw [show hitsP d.C p [] = [] from rfl, List.append_nil, hks] at hall
      rw [hks] at hcw hlen1
      obtain ⟨s2, rfl⟩ : ∃ s2, s2 = s := ⟨_, rfl⟩
      have HALL := Lib.hid hall
      have HCW := Lib.hid hcw
      have HIT := Lib.hid hiter
      have HDW := Lib.hid (show WW.heap[D]? = some (.deferred (some [])) from (hsw.block D hDl (fun e => e)).trans HDK.out)
      have HSORT := Lib.hid (sortStr_any hcw.own (by omega))
      have c5 : WW.cell? ⟨w.heap.size + 1, 0, none⟩ = some (.slice s2.a ks.length s2.c) := hcw.blk.cell 0
      clear hWW hr0 hall hcw hiter hsw hks q0 q1 lq l0 hCe
      gi_loopw [] (fun wr => wr = WW) (fun _ => 0)
      case atStart => rfl
      case round =>
        subst hrel
        have hn2 := run_next_nilO HIT.out
        gi_wp2_with fail
        refine ⟨trivial, ?_⟩
        refine (callsIn_wide.2 HSORT.out).mono ?_
        rintro e w5 ⟨rfl, ts, hts, hsd, hto, htl, htg⟩
        have hsb5 : Sb (fun b => s2.row = some b) wr w5 := ⟨htg.os, htg.tape, htg.output, htg.size, fun i hi hn => htg.block i hi fun e => hn e.symm⟩
        have hblk5 := hsb5.blk HCW.out.blk (fun e => by have := (HCW.out.row e).1; omega)
        have c6 : w5.cell? ⟨w.heap.size + 1, 0, none⟩ = some (.slice s2.a ks.length s2.c) := hblk5.cell 0
        have l6 := hblk5.lt
        have HD5 := Lib.hid (show w5.heap[D]? = some (.deferred (some [])) from (hsb5.block D (by have := (Array.getElem?_eq_some_iff.1 HDW.out).1; omega) (fun e => by have := (HCW.out.row e).1; have := HD.out; omega)).trans HDW.out)
        have hpost := pre_end HN1.out (Nat.le_succ _) HCW.out HALL.out.1 HALL.out.2 hts hsd hto htg (St.put (o' := .deferred none) HD5.out rfl rfl).sb HD.out.symm
        rw [htl] at hpost
        have HPOST := Lib.hid hpost
        clear hsb5 hblk5 hts hsd hto htl htg hpost
        gi_wp2_with fail
        refine ⟨by simp, .inl ⟨_, _, rfl, run_takeDeferred HD5.out, ?_⟩⟩
        refine ⟨.slice s2.a ks.length s2.c, ?_, HPOST.out⟩
        simp [results, Tryz.results22, go_sem]
    · have hown : W.ownsMap Tryz.prog 9 heldR b d.C.length (mapA SV.val d.C) := by
        have := HMAP.out; rw [HMB.out] at this; exact this
      have HOWN := Lib.hid hown
      clear hown
      gi_wp2_with (first | (gi_at_range; refine wpListIn_range_own _ rfl _ 26 rfl 9 85 strKey Tryz.underlying26 heldR b d.C.length _ rfl HOWN.out ?_; intro w2 hrg0 hg0 hs0) | fail)
      have hsw : Nw W w2 := Sb.made hg0
      obtain ⟨ks1, hk1⟩ : ∃ ks1, ownP d.C xs = ks1 := ⟨_, rfl⟩
      have hcw := HCP.out.keep (hsw.any (fun _ => False)) (fun e => e) (fun _ _ e => e) (fun _ e => e.elim)
      rw [hk1] at hcw hlen1
      have hs : s.row ≠ some W.heap.size := fun e => by have := (HCP.out.row e).2; omega
      have HST := Lib.hid (show PreL w1 (w.heap.size + 1) W.heap.size b D d.C p ks1 (Maps.has (mapA SV.val d.C)) (Maps.size (mapA SV.val d.C)) [] s w2 from
        ⟨by rw [show hitsP d.C p [] = [] from rfl, List.append_nil]; exact hcw, hrg0, Collected.start _, hs, (hsw.block D hDl (fun e => e)).trans HDK.out⟩)
      have HK1 := Lib.hid hk1
      have hw1W : w1.heap.size ≤ W.heap.size := HCP.out.sb.size
      clear hrg0 hg0 hs0 hsw hcw hs q0 q1 lq l0 hk1
      simp only [Act.put, List.setIfInBounds_toArray, List.set_cons_zero, List.set_cons_succ]
      gi_loopw [] (fun wr => ∃ (left : Lit → Bool) (cnt : Nat) (ss : List (List UInt8)) (s2 : Sl), PreL w1 (w.heap.size + 1) W.heap.size b D d.C p ks1 left cnt ss s2 wr) (fun wr => wr.rangeLeft b W.heap.size)
      case atStart => exact ⟨_, _, _, _, HST.out⟩
      case round =>
        obtain ⟨left, cnt, ss, s2, hP⟩ := hrel
        have hrg := hP.rg
        have hshort := collected_short hP.co
        have hfew := HAT.out.few
        have hhl := hitsP_len d.C p ss
        have HP := Lib.hid hP
        clear hP
        gi_wp2_with (first | (gi_at_next; refine wpListIn_next_ranges _ rfl _ rfl 9 strKey heldR encStr id (fun key kl hk => by obtain ⟨x, hx, _⟩ := Maps.keyOf_str Tryz.underlying9 hk; exact ⟨x, hx⟩) (fun v _ _ => ⟨v, rfl⟩) b W.heap.size _ _ _ _ rfl hrg ?_ ?_) | fail)
        · intro hc0 hl0
          have hperm := HP.out.co.perm HOWN.out strKey Tryz.underlying9 hl0
          rw [strKeys_mapA] at hperm
          have hall := pre_all (p := p) HAT.out.ok.sorted HAT.out.sorted HS.out hperm
          have hcw := HP.out.col
          rw [HK1.out] at hall
          obtain ⟨ks, hks⟩ : ∃ ks, ks1 ++ hitsP d.C p ss = ks := ⟨_, rfl⟩
          have hkl : ks.length ≤ 2000000 := by rw [← hks, List.length_append]; omega
          rw [hks] at hall hcw
          have HALL := Lib.hid hall
          have HCW := Lib.hid hcw
          have HDW := Lib.hid HP.out.dk
          have HSORT := Lib.hid (sortStr_any hcw.own (by omega))
          have c5 : wr.cell? ⟨w.heap.size + 1, 0, none⟩ = some (.slice s2.a ks.length s2.c) := hcw.blk.cell 0
          clear hrg hperm hall hcw hks hc0 hl0
          gi_wp2_with fail
          refine ⟨trivial, ?_⟩
          refine (callsIn_wide.2 HSORT.out).mono ?_
          rintro e w5 ⟨rfl, ts, hts, hsd, hto, htl, htg⟩
          have hsb5 : Sb (fun b => s2.row = some b) wr w5 := ⟨htg.os, htg.tape, htg.output, htg.size, fun i hi hn => htg.block i hi fun e => hn e.symm⟩
          have hblk5 := hsb5.blk HCW.out.blk (fun e => by have := (HCW.out.row e).1; omega)
          have c6 : w5.cell? ⟨w.heap.size + 1, 0, none⟩ = some (.slice s2.a ks.length s2.c) := hblk5.cell 0
          have l6 := hblk5.lt
          have HD5 := Lib.hid (show w5.heap[D]? = some (.deferred (some [])) from (hsb5.block D (by have := (Array.getElem?_eq_some_iff.1 HDW.out).1; omega) (fun e => by have := (HCW.out.row e).1; have := HD.out; omega)).trans HDW.out)
          have hpost := pre_end HN1.out (Nat.le_succ _) HCW.out HALL.out.1 HALL.out.2 hts hsd hto htg (St.put (o' := .deferred none) HD5.out rfl rfl).sb HD.out.symm
          rw [htl] at hpost
          have HPOST := Lib.hid hpost
          clear hsb5 hblk5 hts hsd hto htl htg hpost
          gi_wp2_with fail
          refine ⟨by simp, .inl ⟨_, _, rfl, run_takeDeferred HD5.out, ?_⟩⟩
          refine ⟨.slice s2.a ks.length s2.c, ?_, HPOST.out⟩
          simp [results, Tryz.results22, go_sem]
        · intro x c kl yd yp w3 cnt2 hkey hlk hv hat hrg2 hcl hg2 hs2 hen
          obtain ⟨x', ex, rfl, hxl⟩ := Maps.keyOf_str Tryz.underlying9 hkey
          obtain rfl := encStr_inj ex
          obtain ⟨sv, hsv, rfl⟩ := at_some hat hv
          have hst3 : Sb (fun i => i = W.heap.size) wr w3 := Sb.grown hg2
          have hcol := HP.out.col.keep hst3 (by omega) (fun i hi e => HP.out.ne (by rw [hi, e])) (fun i e => by omega)
          have hco := HP.out.co.step hlk hat
          obtain ⟨ks, hks⟩ : ∃ ks, ks1 ++ hitsP d.C p ss = ks := ⟨_, rfl⟩
          have hkl : ks.length ≤ 2000000 := by rw [← hks, List.length_append]; omega
          rw [hks] at hcol
          have hdk3 : w3.heap[D]? = some (.deferred (some [])) := (hst3.block D (by have := (Array.getElem?_eq_some_iff.1 HP.out.dk).1; omega) (fun e => by have := HD.out; omega)).trans HP.out.dk
          obtain ⟨has, v, sl, so⟩ := sv
          obtain ⟨k, hk⟩ : ∃ k, textO x = k := ⟨_, rfl⟩
          have hen' : (Instr.entry (.pointer (some ⟨W.heap.size, 0, none⟩))).run Tryz.prog w3 = .ok (.tuple #[.string k, .agg #[.bool has, .int .i64 v.kind, .bool v.b, .int .i64 v.i, .string v.t, .slice sl.a v.l.length sl.c, .slice so.a v.ok.length so.c]]) w3 := by rw [← hk]; exact hen
          rw [hk] at hsv
          obtain ⟨lb3, lr3, nb3⟩ := ranges_ltO hrg2
          have hrow3 : ∀ i, s2.row = some i → w1.heap.size + 2 ≤ i ∧ i < w3.heap.size := fun i hi => hcol.row hi
          have hne3 : s2.row ≠ some W.heap.size := HP.out.ne
          have hneb : s2.row ≠ some b := fun e => by
            rcases hcol.own.2 with ⟨hv, -⟩ | ⟨gg, cap, cur, hv, -, hc, -⟩
            · injection hv with e1
              rw [Sl.row, e1] at e
              cases e
            · injection hv with e1
              rw [Sl.row, e1] at e
              have : gg = b := by simpa using e
              subst this
              exact nb3 _ _ hc
          have hbB : ¬ b = w.heap.size + 1 := fun e => nb3 _ _ (by rw [e]; exact hcol.blk)
          have c3 : w3.cell? ⟨w.heap.size + 1, 0, none⟩ = some (.slice s2.a ks.length s2.c) := hcol.blk.cell 0
          have f3 : w3.frozen? ⟨w.heap.size + 1, 0, none⟩ = false := hcol.blk.frozen 0
          have l3 := hcol.blk.lt
          have HCOL := Lib.hid hcol
          have HCO := Lib.hid hco
          have HRG2 := Lib.hid hrg2
          have HRG1 := Lib.hid hrg
          have HDK3 := Lib.hid hdk3
          have HKS := Lib.hid hks
          have HK := Lib.hid hk
          have HSV := Lib.hid hsv
          have HCL := Lib.hid hcl
          rw [show (encStr x) = Value.string k from by rw [← hk]]
          clear hcol hco hrg2 hrg hdk3 hks hsv hat hv hkey hlk hg2 hs2 hcl hst3 hxl hen
          have hend : ∀ (s3 : Sl) (w6 : World), CollP w1 (w.heap.size + 1) (ks1 ++ hitsP d.C p (ss ++ [x])) s3 w6 → s3.row ≠ some W.heap.size → w6.heap[b]? = w3.heap[b]? → w6.heap[W.heap.size]? = w3.heap[W.heap.size]? → w6.heap[D]? = w3.heap[D]? →
              PreL w1 (w.heap.size + 1) W.heap.size b D d.C p ks1 (fun z => left z && !z.sameKey (.string x)) cnt2 (ss ++ [x]) s3 w6 := fun s3 w6 h1 h2 h3 h4 h5 => ⟨h1, ranges_keepO HRG2.out h3 h4, HCO.out, h2, h5.trans HDK3.out⟩
          have HEND := Lib.hid hend
          clear hend
          have hx4 := (Ext.refl w3).alloc #[.bool has, .int .i64 v.kind, .bool v.b, .int .i64 v.i, .string v.t, .slice sl.a v.l.length sl.c, .slice so.a v.ok.length so.c] 85
          have HX4 := Lib.hid hx4
          clear hx4
          cases has with
          | false =>
            have hno : hitO d.C p (textO x) = false := by rw [HK.out, hitO_eq HSV.out]; rfl
            have HS3 := Lib.hid (HEND.out s2 _ (by rw [hitsP_no hno, HKS.out]; exact HCOL.out.ext HX4.out) hne3 (Below.heap_alloc _ _ _ lb3) (Below.heap_alloc _ _ _ lr3) (Below.heap_alloc _ _ _ (Array.getElem?_eq_some_iff.1 HDK3.out).1))
            gi_wp2_with fail
            refine ⟨trivial, ?_⟩
            gi_wp2_with fail
            go_roundw
            case rel => exact ⟨_, _, _, _, HS3.out⟩
            case measure => rw [HS3.out.rg.left_eq, HRG1.out.left_eq]; exact HCL.out
          | true =>
            gi_wp2_with fail
            refine ⟨trivial, ?_⟩
            refine (callsIn_wide.2 (begins_any _ k p)).mono ?_
            rintro e w4 ⟨rfl, rfl⟩
            cases hbg : beginsO p k with
            | false =>
              have hno : hitO d.C p (textO x) = false := by rw [HK.out, hitO_eq HSV.out, hbg]; rfl
              have HS3 := Lib.hid (HEND.out s2 _ (by rw [hitsP_no hno, HKS.out]; exact HCOL.out.ext HX4.out) hne3 (Below.heap_alloc _ _ _ lb3) (Below.heap_alloc _ _ _ lr3) (Below.heap_alloc _ _ _ (Array.getElem?_eq_some_iff.1 HDK3.out).1))
              gi_wp2_with fail
              go_roundw
              case rel => exact ⟨_, _, _, _, HS3.out⟩
              case measure => rw [HS3.out.rg.left_eq, HRG1.out.left_eq]; exact HCL.out
            | true =>
              have hyes : hitO d.C p (textO x) = true := by rw [HK.out, hitO_eq HSV.out, hbg]; rfl
              have hx34 : Ext w3 ((w3.alloc (.cells #[.bool true, .int .i64 v.kind, .bool v.b, .int .i64 v.i, .string v.t, .slice sl.a v.l.length sl.c, .slice so.a v.ok.length so.c] 85)).alloc (.cells #[.string k] 9)) := ((Ext.refl w3).alloc _ _).alloc _ _
              have hown4 := own_agree HCOL.out.own (hx34.agree (F := Lt w3.heap.size) fun b hb => hb) fun b hb => (hrow3 b hb).2
              have h63 : ks.length + 1 ≤ maxLen := by unfold maxLen; omega
              have hby : (ks.length + 1) * 16 ≤ 140737488355328 := by omega
              have hbase : w1.heap.size + 2 ≤ ((w3.alloc (.cells #[.bool true, .int .i64 v.kind, .bool v.b, .int .i64 v.i, .string v.t, .slice sl.a v.l.length sl.c, .slice so.a v.ok.length so.c] 85)).alloc (.cells #[.string k] 9)).heap.size := by have := HCOL.out.sz; simp; omega
              have HX34 := Lib.hid hx34
              have HOWN4 := Lib.hid hown4
              have HBN := Lib.hid (show Blk ((w3.alloc (.cells #[.bool true, .int .i64 v.kind, .bool v.b, .int .i64 v.i, .string v.t, .slice sl.a v.l.length sl.c, .slice so.a v.ok.length so.c] 85)).alloc (.cells #[.string k] 9)) (w3.heap.size + 1) 9 #[.string k] by
                have := Blk.new (w3.alloc (.cells #[.bool true, .int .i64 v.kind, .bool v.b, .int .i64 v.i, .string v.t, .slice sl.a v.l.length sl.c, .slice so.a v.ok.length so.c] 85)) 9 #[.string k]
                rwa [World.size_alloc] at this)
              have hWB : ¬ w.heap.size + 1 = w3.heap.size := by omega
              have hWB2 : ¬ w.heap.size + 1 = w3.heap.size + 1 := by omega
              have l3' : w.heap.size + 1 < w3.heap.size + 1 := by omega
              have f3X := Lib.hid ((hx34.frozen (o := 0) l3).trans f3)
              have hrB : s2.row ≠ some (w.heap.size + 1) := fun e => by have := (hrow3 _ e).1; omega
              clear hx34 hown4
              gi_wp2_with (gi_at_builtin; refine wpListIn_append_x _ rfl (.tmp 53) (.tmp 55) 59 rfl (w1.heap.size + 2) 9 i0 _ 1 16 Tryz.underlying59 hi hz0 hz1 hz2 rfl (by decide) s2 ks.length (ks.map .string) rfl HOWN4.out (fun b => b = w3.heap.size + 1) ⟨some ⟨w3.heap.size + 1, 0, none⟩, 1⟩ 1 [.string k] rfl (Rd.block HBN.out (by decide) rfl) (by simp [Value.oneCell']) h63 hby hbase ?_; intro s3 w5 hown5 hwr5 hs5; have h5 := hwr5.cell0 (o := 0) HX34.out hrB l3; have c5 : w5.cell? ⟨w.heap.size + 1, 0, none⟩ = some (.slice s2.a ks.length s2.c) := h5.1.trans c3; have l5 := h5.2; have f5 : w5.frozen? ⟨w.heap.size + 1, 0, none⟩ = false := (hwr5.fz _ _).trans (f3X.out); have HO5 := Lib.hid hown5; have HW5 := Lib.hid hwr5; have HS5 := Lib.hid hs5; clear hown5 hwr5 hs5 h5)
              obtain ⟨e1, e2, e3, e4⟩ := HCOL.out.snoc hl1 HX34.out HO5.out HW5.out HS5.out
              have hDl3 := (Array.getElem?_eq_some_iff.1 HDK3.out).1
              have HS3 := Lib.hid (HEND.out s3 _ (by rw [hitsP_yes hyes, ← List.append_assoc, HKS.out, HK.out]; exact e1) (fun e => by
                  rcases e3 _ e with h | h
                  · exact hne3 h
                  · omega) (e2.block b lb3 fun e => by
                  rcases e with e | e
                  · exact hbB e
                  · exact hneb e) (e2.block _ lr3 fun e => by
                  rcases e with e | e
                  · omega
                  · exact hne3 e) (e2.block D hDl3 fun e => by
                  rcases e with e | e
                  · have := HD.out; omega
                  · have := (hrow3 _ e).1; have := HD.out; omega))
              clear e1 e2 e3 e4
              gi_wp2_with fail
              go_roundw
              case rel => exact ⟨_, _, _, _, HS3.out⟩
              case measure => rw [HS3.out.rg.left_eq, HRG1.out.left_eq]; exact HCL.out
end Go.Proofs.YtechahocffcbpaaGreatDoor
namespace Go.Proofs.YtechahocffcbpaaGreatDoor
open Go.RowKit Go.Maps Go.Shelf
set_option linter.unusedVariables false
set_option linter.unusedSimpArgs false
theorem commit_nil (w : World) : Calls Tryz.prog 12 #[.pointer none] w fun e w' => e = .returned (treeV none) ∧ Nw w w' := by
  go_enter Tryz.func12, Tryz.ntmps12
  go_wp2_with fail
  refine bodyPost_ret (v := treeV none) (by simp [results, Tryz.results12, go_sem]; rfl) rfl ?_
  exact ⟨rfl, Nw.of ((Ext.refl w).alloc _ _)⟩
theorem commit_none {H : Nat → Prop} {w : World} {O : Nat} {d : OD} (h : OvAt H w O d) (hm : d.mb = none) : Calls Tryz.prog 12 #[.pointer (some ⟨O, 0, none⟩)] w fun e w' => e = .returned (treeV d.T) ∧ Nw w w' := by
  have c0 : w.cell? ⟨O, 0, none⟩ = some (rootV d.T) := h.blk.cell 0
  have c1 : w.cell? ⟨O, 1, none⟩ = some (.map none) := by have := h.blk.cell 1; rw [hm] at this; exact this
  have lO := h.blk.lt
  obtain ⟨r, hr⟩ := rootV_ptr d.T
  rw [treeV, hr]
  rw [hr] at c0
  have l1 : O < w.heap.size + 1 := by omega
  have l2 : O < w.heap.size + 1 + 1 := by omega
  clear h hm hr
  go_enter Tryz.func12, Tryz.ntmps12
  go_wp2_with fail
  generalize hW0 : World.alloc _ _ = W0
  obtain ⟨hx0, hz0, hb0, hb1⟩ := two_blocks w _ _ _ _ W0 hW0
  have HX0 := Lib.hid hx0
  have HB0 := Lib.hid hb0
  have HB1 := Lib.hid hb1
  have HZ0 := Lib.hid hz0
  clear hW0 hx0 hb0 hb1 l1 l2 hz0
  refine ((callsIn_wide (n := 5)).1 (Tryz.maps_Keys_38 none W0)).mono ?_
  rintro e w' ⟨rfl, rfl⟩
  go_wp2_with fail
  refine ((callsIn_wide (n := 5)).1 (Tryz.slices_Sorted_keys_nil_37_38 W0)).mono ?_
  rintro e w2 ⟨v, ss, rfl, rfl, hrow, hnil, hbl⟩
  obtain rfl := hnil.2 rfl
  have hn2 : Nw W0 w2 := (Nw.of ((Ext.refl W0).alloc #[.map none] 26)).trans (Sb.new hbl)
  have hb0 := hn2.blk HB0.out
  have hb1 := hn2.blk HB1.out
  have q0 : w2.cell? ⟨w.heap.size, 0, none⟩ = some (.pointer none) := hb0.cell 0
  have q1 : w2.cell? ⟨w.heap.size + 1, 0, none⟩ = some (.pointer r) := hb1.cell 0
  have f0 := hb0.frozen 0
  have k0 := hb0.lt
  have k1 := hb1.lt
  have HN := Lib.hid (show Nw w (w2.setCell ⟨w.heap.size, 0, none⟩ (.pointer r)) from
    (((Nw.of HX0.out).any (fun b => w.heap.size ≤ b)).trans (hn2.any _)).set (p := ⟨w.heap.size, 0, none⟩) (.inl (Nat.le_refl _)) _ |>.mono fun i hi e => by omega)
  clear hrow hnil hbl hn2 hb0 hb1 c0 c1
  go_wp2_with fail
  go_loopw [23] (fun q wr => q = .int .i64 0 ∧ wr = w2) (fun _ _ => 0)
  case atStart => exact ⟨rfl, rfl⟩
  case round =>
    obtain ⟨rfl, rfl⟩ := hrel
    go_wp2_with fail
    refine bodyPost_ret (v := .agg #[.pointer r]) (by simp [results, Tryz.results12, go_sem, q0]) rfl ?_
    exact ⟨rfl, HN.out⟩
end Go.Proofs.YtechahocffcbpaaGreatDoor
