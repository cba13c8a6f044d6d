/- What the theorem needs of the texts AppP, Alike, Apply, BackC, RoundE, Back9: no condition of its own. -/
import Derived.Sort.LoopGhostIn
import Derived.RangeFuncNested
import Derived.RangeFuncBound
import Derived.RangeFuncCalls
import Derived.RangeFuncLeaves
import Derived.OwnWalkIn
import Derived.Test.YtpapoalgocmlaaaGreatPza
import Derived.Test.YtpapoalgocmlaaaGreatPzb
import Derived.Test.YtpapoalgocmlaaaGreatPzc
import Derived.Test.YtpapoalgocmlaaaGreatPzf
import Derived.Test.YtpapoalgocmlaaaGreatPzg
import Derived.Test.YtpapoalgocmlaaaGreatPzd
import Derived.Test.YtpapoalgocmlaaaGreatPze
import Derived.Test.YtpapoalgocmlaaaGreatPzh
namespace Go.Proofs.YtpapoalgocmlaaaGreat
open Go.RowKit
set_option linter.unusedVariables false
theorem getE_ins : ∀ (es : List Ent) (k : ByteArray) (v : Val) (x : ByteArray), getE (insE es k v) x = if x = k then some v else getE es x
  | [], k, v, x => by
    simp only [insE, getE]
    by_cases h : x = k
    · rw [if_pos h.symm, if_pos h]
    · rw [if_neg (fun e => h e.symm), if_neg h]
  | e :: es, k, v, x => by
    by_cases h1 : klt e.1 k = true
    · rw [insE, if_pos h1, getE, getE, getE_ins es k v x]
      by_cases h : x = k
      · have : e.1 ≠ x := fun h2 => by rw [h2, h, klt_irrefl] at h1; cases h1
        rw [if_neg this, if_pos h, if_pos h]
      · rw [if_neg h, if_neg h]
    · rw [insE, if_neg h1]
      by_cases h2 : e.1 = k
      · rw [if_pos h2, getE, getE, h2]
        by_cases h : x = k
        · rw [if_pos h.symm, if_pos h]
        · rw [if_neg (fun e => h e.symm), if_neg h, if_neg (fun e => h e.symm)]
      · rw [if_neg h2, getE]
        by_cases h : x = k
        · rw [if_pos h.symm, if_pos h]
        · rw [if_neg (fun e => h e.symm), if_neg h]
theorem getE_del : ∀ (es : List Ent) (k : ByteArray) (x : ByteArray), Sorted es → getE (delE es k) x = if x = k then none else getE es x
  | [], k, x, _ => by simp [delE, getE]
  | e :: es, k, x, hs => by
    obtain ⟨h1, h2⟩ := List.pairwise_cons.1 hs
    by_cases h3 : klt e.1 k = true
    · rw [delE, if_pos h3, getE, getE, getE_del es k x h2]
      by_cases h : x = k
      · have : e.1 ≠ x := fun h2 => by rw [h2, h, klt_irrefl] at h3; cases h3
        rw [if_neg this, if_pos h, if_pos h]
      · rw [if_neg h, if_neg h]
    · rw [delE, if_neg h3]
      by_cases h4 : e.1 = k
      · rw [if_pos h4, getE, h4]
        by_cases h : x = k
        · rw [if_pos h]
          exact getE_none fun f hf e2 => by have := h1 f hf; rw [h4, e2, h, klt_irrefl] at this; cases this
        · rw [if_neg h, if_neg (fun e => h e.symm)]
      · rw [if_neg h4]
        by_cases h : x = k
        · rw [if_pos h]
          refine getE_none fun f hf e2 => ?_
          rcases List.mem_cons.1 hf with rfl | hf
          · exact h4 (e2.trans h)
          · have := h1 f hf
            rw [e2, h] at this
            exact h3 this
        · rw [if_neg h]
def simO : Option Val → Option Val → Bool
  | none, none => true
  | some v, some u => decide (cmpV v u = 0)
  | _, _ => false
theorem simO_refl (o : Option Val) : simO o o = true := by cases o <;> simp [simO, cmpV_refl]
theorem sameE_of : ∀ {a b : List Ent}, Sorted a → Sorted b → (∀ k, simO (getE a k) (getE b k) = true) → sameE a b = true
  | [], [], _, _, _ => rfl
  | [], f :: b, _, _, h => by have := h f.1; simp [getE, simO] at this
  | e :: a, [], _, _, h => by have := h e.1; simp [getE, simO] at this
  | e :: a, f :: b, sa, sb, h => by
    obtain ⟨a1, a2⟩ := List.pairwise_cons.1 sa
    obtain ⟨b1, b2⟩ := List.pairwise_cons.1 sb
    have hk : e.1 = f.1 := by
      refine klt_total ?_ ?_
      · cases hc : klt e.1 f.1 with
        | false => rfl
        | true =>
          have h1 := h e.1
          rw [getE_none (B := f :: b) (k := e.1) fun g hg e2 => by
            rcases List.mem_cons.1 hg with rfl | hg
            · rw [← e2, klt_irrefl] at hc; cases hc
            · have := klt_trans hc (b1 g hg); rw [e2, klt_irrefl] at this; cases this] at h1
          simp [getE, simO] at h1
      · cases hc : klt f.1 e.1 with
        | false => rfl
        | true =>
          have h1 := h f.1
          rw [getE_none (B := e :: a) (k := f.1) fun g hg e2 => by
            rcases List.mem_cons.1 hg with rfl | hg
            · rw [← e2, klt_irrefl] at hc; cases hc
            · have := klt_trans hc (a1 g hg); rw [e2, klt_irrefl] at this; cases this] at h1
          simp [getE, simO] at h1
    have h0 := h e.1
    simp only [getE, if_true, hk, simO] at h0
    rw [sameE, sameE_of a2 b2 fun k => ?_, hk]
    · simpa using h0
    · by_cases hx : e.1 = k
      · have n1 : getE a k = none := getE_none fun g hg e2 => by
          have := a1 g hg
          rw [hx, e2, klt_irrefl] at this; cases this
        have n2 : getE b k = none := getE_none fun g hg e2 => by
          have := b1 g hg
          rw [← hk, hx, e2, klt_irrefl] at this; cases this
        rw [n1, n2]
        rfl
      · have := h k
        rwa [getE, if_neg hx, getE, if_neg (by rw [← hk]; exact hx)] at this
def alikeB (a : Bool) (v : Val) (b : Bool) (u : Val) : Bool := decide (a = b) && (!a || decide (cmpV v u = 0))
def fitsC (es : List Ent) (c : Chg) : Bool := !alikeB c.had c.was c.has c.is_ && alikeB (getE es c.k).isSome ((getE es c.k).getD zeroV) c.had c.was
def stepC (es : List Ent) (c : Chg) : List Ent := if c.has then insE es c.k c.is_ else delE es c.k
def apC : List Ent → List Chg → Option (List Ent)
  | es, [] => some es
  | es, c :: l => if fitsC es c then apC (stepC es c) l else none
theorem stepC_sorted {es : List Ent} (h : Sorted es) (c : Chg) : Sorted (stepC es c) := by
  unfold stepC; split
  · exact insE_sorted h _ _
  · exact delE_sorted h _
def difO (a b : Option Val) : Bool := decide (a.isSome ≠ b.isSome) || decide (cmpV (a.getD zeroV) (b.getD zeroV) ≠ 0)
def chgK (fa fb : ByteArray → Option Val) (k : ByteArray) : Option Chg := if difO (fa k) (fb k) then some ⟨k, (fa k).isSome, (fa k).getD zeroV, (fb k).isSome, (fb k).getD zeroV⟩ else none
theorem difO_not {a b : Option Val} : difO a b = false ↔ simO a b = true := by
  cases a <;> cases b <;> simp [difO, simO, cmpV_refl]
theorem difO_swap (a b : Option Val) : difO a b = difO b a := by
  unfold difO
  rw [show decide (a.isSome ≠ b.isSome) = decide (b.isSome ≠ a.isSome) from decide_eq_decide.2 ne_comm, show decide (cmpV (a.getD zeroV) (b.getD zeroV) ≠ 0) = decide (cmpV (b.getD zeroV) (a.getD zeroV) ≠ 0) from decide_eq_decide.2 (not_congr (cmpV_swap _ _))]
theorem apC_keys (fa fb : ByteArray → Option Val) : ∀ {L : List ByteArray} {st : List Ent}, L.Nodup → Sorted st → (∀ k ∈ L, difO (fa k) (fb k) = true → getE st k = fa k) →
    ∃ st', apC st (L.filterMap (chgK fa fb)) = some st' ∧ Sorted st' ∧ (∀ k, k ∈ L → difO (fa k) (fb k) = true → getE st' k = fb k) ∧ ∀ k, ¬ (k ∈ L ∧ difO (fa k) (fb k) = true) → getE st' k = getE st k
  | [], st, _, hs, _ => ⟨st, rfl, hs, fun k hk => (by cases hk), fun k _ => rfl⟩
  | k :: L, st, hn, hs, h => by
    obtain ⟨hk, hn'⟩ := List.nodup_cons.1 hn
    cases hd : difO (fa k) (fb k) with
    | false =>
      obtain ⟨st', h1, h2, h3, h4⟩ := apC_keys fa fb hn' hs fun x hx => h x (List.mem_cons_of_mem _ hx)
      refine ⟨st', ?_, h2, fun x hx hdx => ?_, fun x hx => h4 x fun e => hx ⟨List.mem_cons_of_mem _ e.1, e.2⟩⟩
      · rw [List.filterMap_cons, show chgK fa fb k = none from by simp [chgK, hd]]
        exact h1
      · rcases List.mem_cons.1 hx with rfl | hx
        · rw [hd] at hdx; cases hdx
        · exact h3 x hx hdx
    | true =>
      have hf := h k List.mem_cons_self hd
      obtain ⟨c, hc⟩ : ∃ c : Chg, (⟨k, (fa k).isSome, (fa k).getD zeroV, (fb k).isSome, (fb k).getD zeroV⟩ : Chg) = c := ⟨_, rfl⟩
      have hget : ∀ x, getE (stepC st c) x = if x = k then fb k else getE st x := fun x => by
        cases hb : fb k with
        | none =>
          have : stepC st c = delE st k := by rw [← hc, hb]; rfl
          rw [this, getE_del st k x hs]
        | some v =>
          have : stepC st c = insE st k v := by rw [← hc, hb]; rfl
          rw [this, getE_ins]
      obtain ⟨st', h1, h2, h3, h4⟩ := apC_keys fa fb hn' (stepC_sorted hs c) fun x hx hdx => by
        rw [hget, if_neg (fun e => hk (by rw [← e]; exact hx))]
        exact h x (List.mem_cons_of_mem _ hx) hdx
      refine ⟨st', ?_, h2, fun x hx hdx => ?_, fun x hx => ?_⟩
      · rw [List.filterMap_cons, show chgK fa fb k = some c from by simp [chgK, hd, hc]]
        have hfit : fitsC st c = true := by
          have ha : alikeB (fa k).isSome ((fa k).getD zeroV) (fb k).isSome ((fb k).getD zeroV) = false := by
            cases ha : fa k <;> cases hb : fb k <;> simp [alikeB, difO, ha, hb, cmpV_refl] at hd ⊢
            exact hd
          rw [← hc]
          show (!alikeB (fa k).isSome ((fa k).getD zeroV) (fb k).isSome ((fb k).getD zeroV) && alikeB (getE st k).isSome ((getE st k).getD zeroV) (fa k).isSome ((fa k).getD zeroV)) = true
          rw [ha, hf]
          simp [alikeB, cmpV_refl]
        show (if fitsC st c then apC (stepC st c) (L.filterMap (chgK fa fb)) else none) = some st'
        rw [hfit]
        exact h1
      · by_cases he : x = k
        · rw [h4 x (fun e => hk (by rw [← he]; exact e.1)), hget, if_pos he, he]
        · rcases List.mem_cons.1 hx with e | hx
          · exact absurd e he
          · exact h3 x hx hdx
      · have he : x ≠ k := fun e => hx ⟨by rw [e]; exact List.mem_cons_self, by rw [e]; exact hd⟩
        rw [h4 x fun e => hx ⟨List.mem_cons_of_mem _ e.1, e.2⟩, hget, if_neg he]
theorem diffK_eq (a b : List Ent) (k : ByteArray) : diffK a b k = chgK (getE a) (getE b) k := by
  unfold diffK chgK difO
  simp only [Bool.or_eq_true, decide_eq_true_eq]
def keys9 (a b : List Ent) : List ByteArray := (putAll (putAll [] (zeroL9 a)) (zeroL9 b)).map Prod.fst
theorem chg_keysE {a b : List Ent} (ha : Sorted a) (hb : Sorted b) : chg a b = (keys9 a b).filterMap (chgK (getE a) (getE b)) := by
  rw [chg_ref ha hb]
  exact filterMap_congr' fun x _ => diffK_eq a b x
theorem keys9_nodup (a b : List Ent) : (keys9 a b).Nodup := by
  have hs : Sorted (putAll (putAll [] (zeroL9 a)) (zeroL9 b)) := putAll_sorted' (putAll_sorted' List.Pairwise.nil)
  have h1 : (keys9 a b).Pairwise fun x y => klt x y = true := List.pairwise_map.2 hs
  exact h1.imp fun {x y} h e => by rw [e, klt_irrefl] at h; cases h
theorem keys9_out {a b : List Ent} {k : ByteArray} (h : k ∉ keys9 a b) : getE a k = none ∧ getE b k = none := by
  have hz : ∀ (l : List Ent) e, e ∈ l → e.1 ∈ (zeroL9 l).map Prod.fst := fun l e he => by
    rw [zeroL9, List.map_map]
    exact List.mem_map.2 ⟨e, he, rfl⟩
  exact ⟨getE_none fun e he h1 => h (h1 ▸ keys_putAll (.inl (keys_putAll (.inr (hz a e he))))), getE_none fun e he h1 => h (h1 ▸ keys_putAll (.inr (hz b e he)))⟩
def turnC (c : Chg) : Chg := ⟨c.k, c.has, c.is_, c.had, c.was⟩
def backC (l : List Chg) : List Chg := (l.map turnC).reverse
theorem backC_backC (l : List Chg) : backC (backC l) = l := by
  unfold backC
  rw [List.map_reverse, List.reverse_reverse, List.map_map]
  exact List.map_id' l
theorem turn_keys (fa fb : ByteArray → Option Val) : ∀ L : List ByteArray, (L.filterMap (chgK fa fb)).map turnC = L.filterMap (chgK fb fa)
  | [] => rfl
  | k :: L => by
    rw [List.filterMap_cons, List.filterMap_cons]
    have e : chgK fb fa k = (chgK fa fb k).map turnC := by
      unfold chgK
      rw [difO_swap (fb k) (fa k)]
      split <;> rfl
    rw [e]
    cases chgK fa fb k with
    | none => exact turn_keys fa fb L
    | some c => exact congrArg _ (turn_keys fa fb L)
theorem back_keys (fa fb : ByteArray → Option Val) (L : List ByteArray) : backC (L.filterMap (chgK fa fb)) = L.reverse.filterMap (chgK fb fa) := by
  rw [backC, turn_keys, List.filterMap_reverse]
theorem chg_leads {a b : List Ent} (ha : Sorted a) (hb : Sorted b) : ∃ x, apC a (chg a b) = some x ∧ Sorted x ∧ sameE x b = true ∧ ∃ y, apC x (backC (chg a b)) = some y ∧ Sorted y ∧ sameE y a = true := by
  obtain ⟨x, h1, h2, h3, h4⟩ := apC_keys (getE a) (getE b) (keys9_nodup a b) ha fun k _ _ => rfl
  rw [← chg_keysE ha hb] at h1
  refine ⟨x, h1, h2, sameE_of h2 hb fun k => ?_, ?_⟩
  · by_cases hk : k ∈ keys9 a b
    · cases hd : difO (getE a k) (getE b k) with
      | true => rw [h3 k hk hd]; exact simO_refl _
      | false =>
        rw [h4 k fun e => by rw [hd] at e; cases e.2]
        exact difO_not.1 hd
    · obtain ⟨e1, e2⟩ := keys9_out hk
      rw [h4 k fun e => hk e.1, e1, e2]
      rfl
  · have hkr : ∀ k, k ∈ (keys9 a b).reverse ↔ k ∈ keys9 a b := fun k => List.mem_reverse
    obtain ⟨y, k1, k2, k3, k4⟩ := apC_keys (getE b) (getE a) (L := (keys9 a b).reverse) (List.pairwise_reverse.2 ((keys9_nodup a b).imp fun h => Ne.symm h)) h2 fun k hk hd => h3 k ((hkr k).1 hk) (by rw [difO_swap]; exact hd)
    rw [← back_keys, ← chg_keysE ha hb] at k1
    refine ⟨y, k1, k2, sameE_of k2 ha fun k => ?_⟩
    by_cases hk : k ∈ keys9 a b ∧ difO (getE a k) (getE b k) = true
    · rw [k3 k ((hkr k).2 hk.1) (by rw [difO_swap]; exact hk.2)]; exact simO_refl _
    · rw [k4 k fun e => hk ⟨(hkr k).1 e.1, by rw [difO_swap]; exact e.2⟩, h4 k hk]; exact simO_refl _
end Go.Proofs.YtpapoalgocmlaaaGreat
namespace Go.Proofs.YtpapoalgocmlaaaGreat
open Go.RowKit Go.Shelf
set_option linter.unusedVariables false
set_option linter.unusedSimpArgs false
set_option maxRecDepth 100000 in
set_option maxHeartbeats 2000000 in
theorem alike_any {w : World} {a b : Bool} {v u : Val} {sl so sl' so' : Sl} (h : RV w (Lt w.heap.size) v sl so) (h' : RV w (Lt w.heap.size) u sl' so') :
    Calls Tryz.prog 25 #[.bool a, aggV v sl so, .bool b, aggV u sl' so'] w fun e w' => e = .returned (.bool (alikeB a v b u)) ∧ Ext w w' := by
  have hs := fun (W : World) (hW : Ext w W) => valueSame_any ((h.agree (hW.agree fun _ h => h)).mono fun i (hi : i < w.heap.size) => Nat.lt_of_lt_of_le hi hW.size) ((h'.agree (hW.agree fun _ h => h)).mono fun i (hi : i < w.heap.size) => Nat.lt_of_lt_of_le hi hW.size)
  obtain ⟨d, hd⟩ : ∃ d, decide (cmpV v u = 0) = d := ⟨_, rfl⟩
  have hr : alikeB a v b u = (decide (a = b) && (!a || d)) := by rw [alikeB, hd]
  rw [hr]
  have hS : ∀ W, Ext w W → Calls Tryz.prog 35 #[aggV v sl so, aggV u sl' so'] W fun e w' => e = .returned (.bool d) ∧ Ext W w' := fun W hW => by rw [← hd]; exact hs W hW
  have HS := Lib.hid hS
  have hx : Ext w ((w.alloc (.cells #[.int .i64 v.kind, .bool v.b, .int .i64 v.i, .string v.t, .slice sl.a v.l.length sl.c, .slice so.a v.ok.length so.c] 51)).alloc (.cells #[.int .i64 u.kind, .bool u.b, .int .i64 u.i, .string u.t, .slice sl'.a u.l.length sl'.c, .slice so'.a u.ok.length so'.c] 51)) := ((Ext.refl w).alloc _ _).alloc _ _
  have HX := Lib.hid hx
  clear hs hd hr h h' hS hx
  cases a <;> cases b
  · go_enter Tryz.func25, Tryz.ntmps25
    go_wp2_with fail
    go_ret
    exact ⟨rfl, HX.out⟩
  · go_enter Tryz.func25, Tryz.ntmps25
    go_wp2_with fail
    go_ret
    exact ⟨rfl, HX.out⟩
  · go_enter Tryz.func25, Tryz.ntmps25
    go_wp2_with fail
    go_ret
    exact ⟨rfl, HX.out⟩
  · go_enter Tryz.func25, Tryz.ntmps25
    go_wp2_with fail
    refine (HS.out _ HX.out).mono ?_
    rintro e w1 ⟨rfl, hx1⟩
    have HX1 := Lib.hid (HX.out.trans hx1)
    clear hx1
    cases d
    all_goals
      go_wp2_with fail
      go_ret
      exact ⟨rfl, HX1.out⟩
theorem c15_of {W : World} {b p : Nat} {x : CE} (h : ∀ c u, x.cells.toList[c]? = some u → W.cell? ⟨b, p + c, none⟩ = some u) :
    W.cell? ⟨b, p, none⟩ = some (.string x.c.k) ∧ W.cell? ⟨b, p + 1, none⟩ = some (.bool x.c.had) ∧ W.cell? ⟨b, p + 2, none⟩ = some (.int .i64 x.c.was.kind) ∧ W.cell? ⟨b, p + 3, none⟩ = some (.bool x.c.was.b) ∧ W.cell? ⟨b, p + 4, none⟩ = some (.int .i64 x.c.was.i) ∧ W.cell? ⟨b, p + 5, none⟩ = some (.string x.c.was.t) ∧ W.cell? ⟨b, p + 6, none⟩ = some (.slice x.slw.a x.c.was.l.length x.slw.c) ∧ W.cell? ⟨b, p + 7, none⟩ = some (.slice x.sow.a x.c.was.ok.length x.sow.c) ∧
      W.cell? ⟨b, p + 8, none⟩ = some (.bool x.c.has) ∧ W.cell? ⟨b, p + 9, none⟩ = some (.int .i64 x.c.is_.kind) ∧ W.cell? ⟨b, p + 10, none⟩ = some (.bool x.c.is_.b) ∧ W.cell? ⟨b, p + 11, none⟩ = some (.int .i64 x.c.is_.i) ∧ W.cell? ⟨b, p + 12, none⟩ = some (.string x.c.is_.t) ∧ W.cell? ⟨b, p + 13, none⟩ = some (.slice x.sli.a x.c.is_.l.length x.sli.c) ∧ W.cell? ⟨b, p + 14, none⟩ = some (.slice x.soi.a x.c.is_.ok.length x.soi.c) :=
  ⟨h 0 _ rfl, h 1 _ rfl, h 2 _ rfl, h 3 _ rfl, h 4 _ rfl, h 5 _ rfl, h 6 _ rfl, h 7 _ rfl, h 8 _ rfl, h 9 _ rfl, h 10 _ rfl, h 11 _ rfl, h 12 _ rfl, h 13 _ rfl, h 14 _ rfl⟩
set_option maxRecDepth 100000 in
set_option maxHeartbeats 2000000 in
theorem idle_any {w : World} {x : CE} (h : CR w (Lt w.heap.size) x) : Calls Tryz.prog 24 #[x.agg] w fun e w' => e = .returned (.bool (alikeB x.c.had x.c.was x.c.has x.c.is_)) ∧ Ext w w' := by
  have hS := fun (W : World) (hW : Ext w W) => alike_any (a := x.c.had) (b := x.c.has) ((h.was.agree (hW.agree fun _ h => h)).mono fun i (hi : i < w.heap.size) => Nat.lt_of_lt_of_le hi hW.size) ((h.is_.agree (hW.agree fun _ h => h)).mono fun i (hi : i < w.heap.size) => Nat.lt_of_lt_of_le hi hW.size)
  obtain ⟨d, hd⟩ : ∃ d, alikeB x.c.had x.c.was x.c.has x.c.is_ = d := ⟨_, rfl⟩
  rw [hd] at hS ⊢
  have HS := Lib.hid hS
  have HX := Lib.hid ((Ext.refl w).alloc x.cells 56)
  clear hS hd h
  go_enter Tryz.func24, Tryz.ntmps24
  go_wp2_with fail
  refine (HS.out _ HX.out).mono ?_
  rintro e w1 ⟨rfl, hx1⟩
  have HX1 := Lib.hid (HX.out.trans hx1)
  clear hx1
  go_wp2_with fail
  go_ret
  exact ⟨rfl, HX1.out⟩
end Go.Proofs.YtpapoalgocmlaaaGreat
namespace Go.Proofs.YtpapoalgocmlaaaGreat
open Go.RowKit Go.Shelf
set_option linter.unusedVariables false
set_option linter.unusedSimpArgs false
def ApplyPost (F : Nat → Prop) (o : Option (List Ent)) (w : World) (e : Ending) (w' : World) : Prop :=
  ∃ T' : RT, e = .returned (.tuple #[treeV T', .int .i64 (if o.isSome then 0 else 13)]) ∧ OkR T' ∧ IsT w' (Up F w w') T' ∧ entsT T' = o.getD [] ∧ Ext w w'
def NB (F : Nat → Prop) (n : Nat) (w : World) (b : Nat) : Prop := (F b ∨ n ≤ b) ∧ b < w.heap.size ∧ b ≠ n ∧ b ≠ n + 1
theorem drop_at {α : Type} {l : List α} {j : Nat} {x : α} (h : l[j]? = some x) : l.drop j = x :: l.drop (j + 1) := by
  obtain ⟨h1, h2⟩ := List.getElem?_eq_some_iff.1 h
  rw [List.drop_eq_getElem_cons h1, h2]
theorem stepC_len (es : List Ent) (c : Chg) : (stepC es c).length ≤ es.length + 1 := by
  unfold stepC; split
  · rcases insE_len es c.k c.is_ with h | h <;> omega
  · have := (delE_sublist es c.k).length_le; omega
theorem apply_next {F : Nat → Prop} {w wr w7 w8 : World} {T' : RT} {p' : Option Addr} {v0 : Value} (hX : Ext w wr) (h7 : Ext wr w7) (h8 : Ext w7 w8) (hT : IsT w8 (Up (NB F w.heap.size wr) w7 w8) T') (hp : rootV T' = .pointer p') (hb : Blk wr w.heap.size 27 #[v0]) (hb1 : Blk wr (w.heap.size + 1) 27 #[.pointer none]) :
    IsT (w8.setCell ⟨w.heap.size, 0, none⟩ (.pointer p')) (NB F w.heap.size (w8.setCell ⟨w.heap.size, 0, none⟩ (.pointer p'))) T' ∧ Blk (w8.setCell ⟨w.heap.size, 0, none⟩ (.pointer p')) w.heap.size 27 #[rootV T'] ∧ Blk (w8.setCell ⟨w.heap.size, 0, none⟩ (.pointer p')) (w.heap.size + 1) 27 #[.pointer none] ∧ Ext w (w8.setCell ⟨w.heap.size, 0, none⟩ (.pointer p')) := by
  have l1 := hb1.lt
  have s7 := h7.size
  have s8 := h8.size
  refine ⟨(hT.agree (Agree.setCell w8 ⟨w.heap.size, 0, none⟩ _ ?_)).mono fun i hi => ?_, ?_, (hb1.ext (h7.trans h8)).far (by show w.heap.size + 1 ≠ w.heap.size; omega) _, ((hX.trans h7).trans h8).setCell (Nat.le_refl _) _⟩
  · rintro (hf | hf)
    · exact hf.2.2.1 rfl
    · have : w7.heap.size ≤ w.heap.size := hf.1
      omega
  · rw [NB, World.size_setCell]
    rcases hi with hi | hi
    · exact ⟨hi.1, by have := hi.2.1; omega, hi.2.2⟩
    · exact ⟨.inr (by have := hi.1; omega), hi.2, by have := hi.1; omega, by have := hi.1; omega⟩
  · rw [hp]; exact (hb.ext (h7.trans h8)).set_ 0 _
set_option maxRecDepth 100000 in
set_option maxHeartbeats 8000000 in
theorem apply_any {w : World} {F : Nat → Prop} {T : RT} {s : Sl} {cs : List CE} (hF : ∀ b, F b → b < w.heap.size) (hT : IsT w F T) (ok : OkR T) (hs : CS w (Lt w.heap.size) s cs) (hc : (entsT T).length + cs.length ≤ 100000) :
    Calls Tryz.prog 10 #[treeV T, .slice s.a cs.length s.c] w (ApplyPost F (apC (entsT T) (cs.map CE.c)) w) := by
  obtain ⟨p0, hp0⟩ := rootV_ptr T
  obtain ⟨n0, hn0⟩ : ∃ n, (entsT T).length = n := ⟨_, rfl⟩
  obtain ⟨ap, hap⟩ : ∃ ap, apC (entsT T) (cs.map CE.c) = ap := ⟨_, rfl⟩
  rw [treeV, hp0, hap]
  rw [hn0] at hc
  have HS := Lib.hid hs
  have H0 := Lib.hid (show IsT w F T ∧ OkR T ∧ (∀ b, F b → b < w.heap.size) ∧ (entsT T).length = n0 ∧ apC (entsT T) (cs.map CE.c) = ap ∧ rootV T = .pointer p0 from ⟨hT, ok, hF, hn0, hap, hp0⟩)
  clear hs hT ok hF hp0 hn0 hap
  go_enter Tryz.func10, Tryz.ntmps10
  go_wp2_with fail
  generalize hW0 : World.alloc (World.alloc _ _) _ = W0
  obtain ⟨hx0, hz0, hb0, hb1⟩ := two_blocks w _ _ _ _ W0 hW0
  have HX0 := Lib.hid hx0
  have HB0 := Lib.hid hb0
  have HB1 := Lib.hid hb1
  have HZ0 := Lib.hid hz0
  clear hW0 hx0 hb0 hb1 hz0
  go_loopw [12] (fun i wr => ∃ (j : Nat) (T1 : RT), j ≤ cs.length ∧ i = .int .i64 j ∧ OkR T1 ∧ IsT wr (NB F w.heap.size wr) T1 ∧ apC (entsT T1) ((cs.map CE.c).drop j) = ap ∧ (entsT T1).length ≤ n0 + j ∧ Blk wr w.heap.size 27 #[rootV T1] ∧ Blk wr (w.heap.size + 1) 27 #[.pointer none] ∧ Ext w wr) (fun i _ => cs.length - (intOf i).toNat)
  case atStart => exact ⟨0, T, Nat.zero_le _, rfl, H0.out.2.1, (H0.out.1.agree (HX0.out.agree H0.out.2.2.1)).mono fun i hi => ⟨.inl hi, by have := H0.out.2.2.1 i hi; have := HZ0.out; omega, by have := H0.out.2.2.1 i hi; omega, by have := H0.out.2.2.1 i hi; omega⟩, H0.out.2.2.2.2.1, by rw [H0.out.2.2.2.1]; exact Nat.le_refl _, by rw [H0.out.2.2.2.2.2]; exact HB0.out, HB1.out, HX0.out⟩
  case round =>
    obtain ⟨j, T1, hj, rfl, ok, hT, hap, hlT, hbT, hbR, hX⟩ := hrel
    obtain ⟨p1, hp1⟩ := rootV_ptr T1
    have hlb := hbR.lt
    have hlb0 : w.heap.size < wr.heap.size := by omega
    by_cases hlt : j < cs.length
    · have g1 : (j : Int) < (cs.length : Int) := by omega
      obtain ⟨x, hxx⟩ : ∃ x, cs[j]? = some x := ⟨_, List.getElem?_eq_getElem hlt⟩
      obtain ⟨b, o, hsa, lb, hcc, hcm, hcr, hcl⟩ := HS.out.at hxx
      obtain ⟨sa, sc⟩ := s
      dsimp only at hsa hcc hcm
      subst hsa
      have lb : b < w.heap.size := lb
      have hcr' : CR wr (Lt w.heap.size) x := hcr.agree (hX.agree fun _ h => h)
      have hsx : ∀ c u, x.cells.toList[c]? = some u → wr.cell? ⟨b, o + j * 15 + c, none⟩ = some u := fun c u hu => (hX.cell lb).trans (hcl c u hu)
      obtain ⟨v0, v1, v2, v3, v4, v5, v6, v7, v8, v9, v10, v11, v12, v13, v14⟩ := c15_of hsx
      have hdrop : (cs.map CE.c).drop j = x.c :: (cs.map CE.c).drop (j + 1) := drop_at (by rw [List.getElem?_map, hxx]; rfl)
      have hNB : ∀ i, NB F w.heap.size wr i → i < wr.heap.size := fun i hi => hi.2.1
      have hlc : (entsT T1).length ≤ 1000000 := by omega
      have hget := fun (W : World) (hW : Ext wr W) => treeGet_any (k := x.c.k) (fun b hb => Nat.lt_of_lt_of_le (hNB b hb) hW.size) (hT.agree (hW.agree hNB)) ok hlc
      have hput := fun (W : World) (hW : Ext wr W) => put_any (k := x.c.k) (v := x.c.is_) (sl := x.sli) (so := x.soi) (fun b hb => Nat.lt_of_lt_of_le (hNB b hb) hW.size) (hT.agree (hW.agree hNB)) ok hlc hcr'.key ((hcr'.is_.agree (hW.agree fun i (hi : i < w.heap.size) => Nat.lt_of_lt_of_le hi hX.size)).mono fun i (hi : i < w.heap.size) => Nat.lt_of_lt_of_le hi (hX.trans hW).size)
      have hdel := fun (W : World) (hW : Ext wr W) => delete_any (fun b hb => Nat.lt_of_lt_of_le (hNB b hb) hW.size) (hT.agree (hW.agree hNB)) ok hlc x.c.k
      have hidl := fun (W : World) (hW : Ext wr W) => idle_any ((hcr'.agree (hW.agree fun i (hi : i < w.heap.size) => Nat.lt_of_lt_of_le hi hX.size)).mono fun i (hi : i < w.heap.size) => Nat.lt_of_lt_of_le hi (hX.trans hW).size)
      have hcrW := fun (W : World) (hW : Ext wr W) => (hcr'.agree (hW.agree fun i (hi : i < w.heap.size) => Nat.lt_of_lt_of_le hi hX.size)).mono (G := Lt W.heap.size) fun i (hi : i < w.heap.size) => Nat.lt_of_lt_of_le hi (hX.trans hW).size
      obtain ⟨gv, hgv⟩ : ∃ g, (getE (entsT T1) x.c.k).getD zeroV = g := ⟨_, rfl⟩
      obtain ⟨gb, hgb⟩ : ∃ g, (getE (entsT T1) x.c.k).isSome = g := ⟨_, rfl⟩
      obtain ⟨bi, hbi⟩ : ∃ g, alikeB x.c.had x.c.was x.c.has x.c.is_ = g := ⟨_, rfl⟩
      obtain ⟨ba, hba⟩ : ∃ g, alikeB gb gv x.c.had x.c.was = g := ⟨_, rfl⟩
      have hfit : fitsC (entsT T1) x.c = (!bi && ba) := by rw [fitsC, hgv, hgb, hbi, hba]
      unfold GetPost at hget
      rw [treeV, hp1] at hget hput hdel
      rw [hgv, hgb] at hget
      rw [hbi] at hidl
      have hapx : ap = if (!bi && ba) = true then apC (stepC (entsT T1) x.c) ((cs.map CE.c).drop (j + 1)) else none := by rw [← hap, hdrop, apC, hfit]
      have hx3 : Ext wr (wr.alloc (.cells x.cells 56)) := (Ext.refl wr).alloc _ _
      have hb3 := Blk.new wr 56 x.cells
      have HSS := Lib.hid (show ∀ W, Ext (wr.alloc (.cells x.cells 56)) W → (W.cell? ⟨wr.heap.size, 0, none⟩ = some (.string x.c.k) ∧ W.cell? ⟨wr.heap.size, 1, none⟩ = some (.bool x.c.had) ∧ W.cell? ⟨wr.heap.size, 2, none⟩ = some (.int .i64 x.c.was.kind) ∧ W.cell? ⟨wr.heap.size, 3, none⟩ = some (.bool x.c.was.b) ∧ W.cell? ⟨wr.heap.size, 4, none⟩ = some (.int .i64 x.c.was.i) ∧ W.cell? ⟨wr.heap.size, 5, none⟩ = some (.string x.c.was.t) ∧ W.cell? ⟨wr.heap.size, 6, none⟩ = some (.slice x.slw.a x.c.was.l.length x.slw.c) ∧ W.cell? ⟨wr.heap.size, 7, none⟩ = some (.slice x.sow.a x.c.was.ok.length x.sow.c) ∧
          W.cell? ⟨wr.heap.size, 8, none⟩ = some (.bool x.c.has) ∧ W.cell? ⟨wr.heap.size, 9, none⟩ = some (.int .i64 x.c.is_.kind) ∧ W.cell? ⟨wr.heap.size, 10, none⟩ = some (.bool x.c.is_.b) ∧ W.cell? ⟨wr.heap.size, 11, none⟩ = some (.int .i64 x.c.is_.i) ∧ W.cell? ⟨wr.heap.size, 12, none⟩ = some (.string x.c.is_.t) ∧ W.cell? ⟨wr.heap.size, 13, none⟩ = some (.slice x.sli.a x.c.is_.l.length x.sli.c) ∧ W.cell? ⟨wr.heap.size, 14, none⟩ = some (.slice x.soi.a x.c.is_.ok.length x.soi.c)) ∧
          W.cell? ⟨w.heap.size, 0, none⟩ = some (.pointer p1) ∧ W.frozen? ⟨w.heap.size, 0, none⟩ = false ∧ W.cell? ⟨w.heap.size + 1, 0, none⟩ = some (.pointer none) ∧ W.frozen? ⟨w.heap.size + 1, 0, none⟩ = false ∧ w.heap.size + 1 < W.heap.size ∧ wr.heap.size < W.heap.size from fun W hW => by
        have h1 := hbT.ext (hx3.trans hW)
        have h2 := hbR.ext (hx3.trans hW)
        rw [hp1] at h1
        exact ⟨(hb3.ext hW).c15, h1.cell 0, h1.frozen 0, h2.cell 0, h2.frozen 0, h2.lt, (hb3.ext hW).lt⟩)
      have t0 : wr.cell? ⟨w.heap.size, 0, none⟩ = some (.pointer p1) := by have := hbT.cell 0; rw [hp1] at this; exact this
      have HX := Lib.hid hX
      have HX3 := Lib.hid hx3
      have HGET := Lib.hid hget
      have HPUT := Lib.hid hput
      have HDEL := Lib.hid hdel
      have HIDL := Lib.hid hidl
      have HCR := Lib.hid hcrW
      have HAP := Lib.hid hapx
      have HBA := Lib.hid hba
      have HOK := Lib.hid ok
      have HBT := Lib.hid hbT
      have HBR := Lib.hid hbR
      have HP1 := Lib.hid hp1
      have HLT := Lib.hid hlT
      clear hX hT hap hbT hbR hp1 hxx hcr hcl hcr' hsx hdrop hNB hget hput hdel hidl hcrW hgv hgb hbi hba hfit hapx hx3 hb3 ok hlc hlT
      go_wp2_with fail
      dsimp only [CE.cells] at HSS HX3
      generalize hW3 : wr.alloc (.cells _ _) = W3 at *
      clear hW3 t0 v0 v1 v2 v3 v4 v5 v6 v7 v8 v9 v10 v11 v12 v13 v14
      refine (HGET.out W3 HX3.out).mono ?_
      rintro e w4 ⟨gl, gq, rfl, hx4, hrv⟩
      have hx5 := (Ext.refl w4).alloc #[.int .i64 gv.kind, .bool gv.b, .int .i64 gv.i, .string gv.t, .slice gl.a gv.l.length gl.c, .slice gq.a gv.ok.length gq.c] 51
      have HB5 := Lib.hid (Blk.new w4 51 #[.int .i64 gv.kind, .bool gv.b, .int .i64 gv.i, .string gv.t, .slice gl.a gv.l.length gl.c, .slice gq.a gv.ok.length gq.c])
      have HRV := Lib.hid ((hrv.agree (hx5.agree fun b hb => hb.2)).mono (G := Lt (w4.alloc (.cells #[.int .i64 gv.kind, .bool gv.b, .int .i64 gv.i, .string gv.t, .slice gl.a gv.l.length gl.c, .slice gq.a gv.ok.length gq.c] 51)).heap.size) fun b hb => Nat.lt_of_lt_of_le hb.2 hx5.size)
      have H5 := Lib.hid (hx4.trans hx5)
      have q4 := HSS.out _ hx4
      clear hx4 hrv
      go_wp2_with fail
      have q5 := HSS.out _ H5.out
      clear q4 hx5
      generalize w4.alloc (.cells _ _) = W5 at *
      refine (HIDL.out W5 (HX3.out.trans H5.out)).mono ?_
      rintro e w6 ⟨rfl, hx6⟩
      have H6 := Lib.hid (H5.out.trans hx6)
      have hb6 := HB5.out.ext hx6
      obtain ⟨u0, u1, u2, u3, u4, u5⟩ := hb6.c6
      have ul := hb6.lt
      have HRV6 := Lib.hid ((HRV.out.agree (hx6.agree fun b hb => hb)).mono (G := Lt w6.heap.size) fun b hb => Nat.lt_of_lt_of_le hb hx6.size)
      have q6 := HSS.out _ H6.out
      clear q5 hx6 hb6 HRV HB5
      cases bi with
      | true =>
        have r0 := q6.2.2.2.1
        have HXE := Lib.hid (HX.out.trans (HX3.out.trans H6.out))
        clear u0 u1 u2 u3 u4 u5
        go_wp2_with fail
        have qr : (w6.setCell ⟨w.heap.size + 1, 0, none⟩ (.pointer none)).cell? ⟨w.heap.size + 1, 0, none⟩ = some (.pointer none) := World.cell?_setCell_same w6 _ _ r0
        refine bodyPost_ret (v := .tuple #[.agg #[.pointer none], .int .i64 13]) (by simp [results, Tryz.results10, go_sem, qr]) rfl ?_
        have hnone : ap = none := by rw [HAP.out]; rfl
        rw [hnone]
        exact ⟨none, rfl, trivial, trivial, rfl, HXE.out.setCell (p := ⟨w.heap.size + 1, 0, none⟩) (Nat.le_succ _) _⟩
      | false =>
        go_wp2_with fail
        refine (alike_any (a := gb) (b := x.c.had) HRV6.out (HCR.out w6 (HX3.out.trans H6.out)).was).mono ?_
        rintro e w7 ⟨rfl, hx7⟩
        rw [HBA.out]
        have H7 := Lib.hid (H6.out.trans hx7)
        have q7 := HSS.out _ H7.out
        have hs7 := hx7.size
        clear q6 hx7 u0 u1 u2 u3 u4 u5
        cases ba with
        | false =>
          have r0 := q7.2.2.2.1
          have HXE := Lib.hid (HX.out.trans (HX3.out.trans H7.out))
          go_wp2_with fail
          have qr : (w7.setCell ⟨w.heap.size + 1, 0, none⟩ (.pointer none)).cell? ⟨w.heap.size + 1, 0, none⟩ = some (.pointer none) := World.cell?_setCell_same w7 _ _ r0
          refine bodyPost_ret (v := .tuple #[.agg #[.pointer none], .int .i64 13]) (by simp [results, Tryz.results10, go_sem, qr]) rfl ?_
          have hnone : ap = none := by rw [HAP.out]; rfl
          rw [hnone]
          exact ⟨none, rfl, trivial, trivial, rfl, HXE.out.setCell (p := ⟨w.heap.size + 1, 0, none⟩) (Nat.le_succ _) _⟩
        | true =>
          have hap' : ap = apC (stepC (entsT T1) x.c) ((cs.map CE.c).drop (j + 1)) := by rw [HAP.out]; rfl
          have hsl := stepC_len (entsT T1) x.c
          have HAP' := Lib.hid hap'
          clear hap'
          cases hh : x.c.has with
          | true =>
            rw [hh] at q7
            have HH := Lib.hid hh
            clear hh
            go_wp2_with fail
            refine (HPUT.out w7 (HX3.out.trans H7.out)).mono ?_
            rintro e w8 ⟨T', rfl, hR, hT', hx8⟩
            obtain ⟨p', hp'⟩ := rootV_ptr T'
            rw [treeV, hp']
            have H8 := Lib.hid (H7.out.trans hx8)
            have q8 := HSS.out _ H8.out
            have hent : entsT T' = stepC (entsT T1) x.c := by rw [hR.ents HOK.out, stepC, if_pos HH.out]
            have HENT := Lib.hid hent
            have HOK' := Lib.hid (hR.ok HOK.out)
            have HNX := Lib.hid (apply_next HX.out (HX3.out.trans H7.out) hx8 hT' hp' HBT.out HBR.out)
            clear q7 hx8 hT' hR hp' hent
            go_wp2_with fail
            go_roundw
            case rel => exact ⟨j + 1, T', hlt, by go_num, HOK'.out, HNX.out.1, by rw [HENT.out]; exact HAP'.out.symm, by rw [HENT.out]; have := HLT.out; omega, HNX.out.2.1, HNX.out.2.2.1, HNX.out.2.2.2⟩
            case measure => simp [intOf]; omega
          | false =>
            rw [hh] at q7
            have HH := Lib.hid hh
            clear hh
            go_wp2_with fail
            refine (HDEL.out w7 (HX3.out.trans H7.out)).mono ?_
            rintro e w8 ⟨T', rfl, hR, hT', hx8⟩
            obtain ⟨p', hp'⟩ := rootV_ptr T'
            rw [treeV, hp']
            have H8 := Lib.hid (H7.out.trans hx8)
            have q8 := HSS.out _ H8.out
            have hent : entsT T' = stepC (entsT T1) x.c := by rw [hR.ents HOK.out, stepC, if_neg (by rw [HH.out]; simp)]
            have HENT := Lib.hid hent
            have HOK' := Lib.hid (hR.ok HOK.out)
            have HNX := Lib.hid (apply_next HX.out (HX3.out.trans H7.out) hx8 hT' hp' HBT.out HBR.out)
            clear q7 hx8 hT' hR hp' hent
            go_wp2_with fail
            go_roundw
            case rel => exact ⟨j + 1, T', hlt, by go_num, HOK'.out, HNX.out.1, by rw [HENT.out]; exact HAP'.out.symm, by rw [HENT.out]; have := HLT.out; omega, HNX.out.2.1, HNX.out.2.2.1, HNX.out.2.2.2⟩
            case measure => simp [intOf]; omega
    · have g1 : ¬ (j : Int) < (cs.length : Int) := by omega
      have hend : ap = some (entsT T1) := by
        rw [← hap, List.drop_of_length_le (by rw [List.length_map]; omega)]
        rfl
      have t0 : wr.cell? ⟨w.heap.size, 0, none⟩ = some (rootV T1) := hbT.cell 0
      rw [hp1] at t0
      have r0 : wr.cell? ⟨w.heap.size + 1, 0, none⟩ = some (.pointer none) := hbR.cell 0
      have fr := hbR.frozen 0
      have HE := Lib.hid hend
      have HFIN := Lib.hid (show OkR T1 ∧ IsT wr (NB F w.heap.size wr) T1 ∧ rootV T1 = .pointer p1 ∧ Ext w wr from ⟨ok, hT, hp1, hX⟩)
      clear ok hT hap hlT hbT hbR hX hp1 hend
      go_wp2_with fail
      have qr : (wr.setCell ⟨w.heap.size + 1, 0, none⟩ (.pointer p1)).cell? ⟨w.heap.size + 1, 0, none⟩ = some (.pointer p1) := World.cell?_setCell_same wr _ _ r0
      refine bodyPost_ret (v := .tuple #[.agg #[.pointer p1], .int .i64 0]) (by simp [results, Tryz.results10, go_sem, qr]) rfl ?_
      rw [HE.out]
      refine ⟨T1, by rw [treeV, HFIN.out.2.2.1]; rfl, HFIN.out.1, (HFIN.out.2.1.agree (Agree.setCell wr ⟨w.heap.size + 1, 0, none⟩ _ fun hf => hf.2.2.2 rfl)).mono fun i hi => hi.1.imp id fun h => ⟨h, by rw [World.size_setCell]; exact hi.2.1⟩, rfl, HFIN.out.2.2.2.setCell (p := ⟨w.heap.size + 1, 0, none⟩) (Nat.le_succ _) _⟩
end Go.Proofs.YtpapoalgocmlaaaGreat
namespace Go.Proofs.YtpapoalgocmlaaaGreat
open Go.RowKit Go.Shelf
set_option linter.unusedVariables false
set_option linter.unusedSimpArgs false
attribute [local go_sem] Oper.semAt_some
theorem CS.agree9 {w w' : World} {F : Nat → Prop} {s : Sl} {xs : List CE} (h : CS w F s xs) (ha : Agree F w w') : CS w' F s xs := ⟨h.rd.agree ha, fun x hx => (h.vals x hx).agree ha, h.few⟩
theorem backC_any (w : World) (s : Sl) (n : Nat) : Calls Tryz.prog 28 #[.slice s.a n s.c] w fun e w' => e = .returned (.func (.func 57) #[] #[.pointer (some ⟨w.heap.size, 0, none⟩)]) ∧ Ext w w' ∧ Blk w' w.heap.size 36 #[.slice s.a n s.c] := by
  go_enter Tryz.func28, Tryz.ntmps28
  go_wp2_with fail
  go_ret
  exact ⟨rfl, (Ext.refl _).alloc _ _, Blk.new _ _ _⟩
abbrev encBC (x : Nat × CE) : Array Value := #[.int .i64 x.1, x.2.agg]
structure BackGC (vs : List CE) (pre : List (Nat × CE)) (x : Nat × CE) (W0 W1 : World) : Prop where
  at_ : x.1 + pre.length + 1 = vs.length
  val : vs[x.1]? = some x.2
  pre_ : pre.map Prod.snd = vs.reverse.take pre.length
theorem back_nextC {vs : List CE} {pre : List (Nat × CE)} {x : Nat × CE} {W0 W1 : World} (h : BackGC vs pre x W0 W1) : (pre ++ [x]).map Prod.snd = vs.reverse.take (pre ++ [x]).length := by
  have h1 := h.at_
  have h2 : vs.reverse[pre.length]? = some x.2 := by
    rw [List.getElem?_reverse (by omega), show vs.length - 1 - pre.length = x.1 from by omega]
    exact h.val
  rw [List.map_append, h.pre_, List.length_append, List.length_singleton, List.take_add_one, h2]
  rfl
structure BackSC (n : Nat) (vs : List CE) (J : List (Nat × CE) → (Nat → Prop) → World → Prop) (C : Nat → Prop) (W : World) (m : Nat) (pre : List (Nat × CE)) (C' : Nat → Prop) (Wj wr : World) : Prop where
  j : J pre C' Wj
  ext : Ext Wj wr
  len : m + pre.length = n
  pre_ : pre.map Prod.snd = vs.reverse.take pre.length
  st : St C W wr
  sub : ∀ b, C' b → C b ∨ W.heap.size ≤ b
set_option maxRecDepth 100000 in
set_option maxHeartbeats 4000000 in
theorem back_seqC {w0 : World} {B : Nat} {F : Nat → Prop} {s : Sl} {vs : List CE} (hb : Blk w0 B 36 #[.slice s.a vs.length s.c]) (hs : CS w0 F s vs) (hF : ∀ b, F b → b < w0.heap.size) (hl : vs.length ≤ 1000000) :
    SeqC Tryz.prog 57 #[.pointer (some ⟨B, 0, none⟩)] encBC (fun b => F b ∨ b = B) (BackGC vs) (fun xs => xs.map Prod.snd = vs.reverse) (fun _ => True) w0 := by
  intro l J Jx C W hTk hA hsz hCK hJ
  have hCl := hTk.lt [] C W hJ
  have hlB := hb.lt
  have hss : ∀ W1, St C W W1 → W1.cell? ⟨B, 0, none⟩ = some (.slice s.a vs.length s.c) ∧ CS W1 F s vs := fun W1 hW =>
    ⟨(hW.cell (by omega) fun h => hCK _ h (.inr rfl)).trans ((World.cell?_of_block (w := w0) (a := ⟨B, 0, none⟩) (hA B (.inr rfl))).trans (hb.cell 0)),
      hs.agree9 fun b hb => (hW.block b (by have := hF b hb; omega) fun h => hCK _ h (.inl hb)).trans (hA b (.inl hb))⟩
  obtain ⟨sa, sc⟩ := s
  dsimp only at hss
  have HTK := Lib.hid hTk
  have HSS := Lib.hid hss
  have HJ := Lib.hid hJ
  have c0 := (hss W (St.refl _ W)).1
  have lB : B < W.heap.size := by omega
  have HFW := Lib.hid (fun (b : Nat) (hb : F b) => Nat.lt_of_lt_of_le (hF b hb) hsz)
  have hl1 : (0 : Int) ≤ (vs.length : Int) := by omega
  clear hTk hA hCK hJ hb hs hss hCl hF
  show Calls _ _ #[.func (.yield l) #[] #[], .pointer (some ⟨B, 0, none⟩)] W _
  refine (callsIn_wide (n := 5)).1 ?_
  refine callsIn_of_wp Tryz.func57 rfl trivial ?_ rfl
  simp only [Tryz.ntmps57, List.size_toArray, List.length_cons, List.length_nil, Nat.reduceAdd, Nat.reduceSub, Array.replicate_succ, Array.replicate_zero, List.push_toArray, List.append_toArray, List.nil_append, List.cons_append]
  gi_wp2_with fail
  clear c0
  gi_loopw [3] (fun v wr => ∃ (m : Nat) (pre : List (Nat × CE)) (C' : Nat → Prop) (Wj : World), v = .int .i64 ((m : Int) - 1) ∧ BackSC vs.length vs J C W m pre C' Wj wr) (fun v _ => (intOf v + 1).toNat)
  case atStart => exact ⟨vs.length, [], C, W, rfl, ⟨HJ.out, Ext.refl _, by simp, by simp, St.refl _ _, fun b hb => .inl hb⟩⟩
  case round =>
    obtain ⟨m, pre, C', Wj, rfl, hS⟩ := hrel
    have HS := Lib.hid hS
    cases m with
    | zero =>
      have hlen : pre.length = vs.length := by have := hS.len; omega
      have hall : pre.map Prod.snd = vs.reverse := by rw [hS.pre_, hlen, List.take_of_length_le (by simp)]
      have HALL := Lib.hid hall
      clear hS hlen hall
      gi_wp2_with fail
      go_end0
      exact ⟨⟨_, rfl⟩, .inl ⟨pre, C', Wj, HALL.out, HS.out.j, HS.out.ext⟩⟩
    | succ k =>
      have e1 : (((k + 1 : Nat) : Int) - 1) = (k : Int) := by omega
      rw [e1]
      clear e1
      have hlen := hS.len
      obtain ⟨x, hvk⟩ : ∃ x, vs[k]? = some x := ⟨_, List.getElem?_eq_getElem (by omega)⟩
      obtain ⟨c0, hcs⟩ := HSS.out wr hS.st
      obtain ⟨b, o, hsa, lb, hcc, hcm, -, hcl⟩ := hcs.at hvk
      dsimp only at hsa hcc hcm
      subst hsa
      have lb : b < wr.heap.size := Nat.lt_of_lt_of_le (HFW.out b lb) hS.st.size
      obtain ⟨v0, v1, v2, v3, v4, v5, v6, v7, v8, v9, v10, v11, v12, v13, v14⟩ := c15_of hcl
      have hsw := hS.st.size
      have g0 : (0 : Int) ≤ (k : Int) := by omega
      have g1 : (k : Int) < (vs.length : Int) := by omega
      have hG : BackGC vs pre (k, x) Wj wr := ⟨by show k + pre.length + 1 = _; omega, hvk, hS.pre_⟩
      have hy := HTK.out.take pre C' (k, x) Wj wr hS.j hS.ext hG
      obtain ⟨fn, tmps, assign, body, hy, hR⟩ := hy
      have HR := Lib.hid hR
      have HN := Lib.hid (back_nextC hG)
      clear hS hG hR hcl hcs hvk
      dsimp only [encBC, CE.agg, CE.cells] at hy
      gi_wp2_with fail
      clear v0 v1 v2 v3 v4 v5 v6 v7 v8 v9 v10 v11 v12 v13 v14
      refine HR.out.mono ?_
      rintro e w6 (⟨rfl, C6, hj6, hst6, hsub6⟩ | ⟨rfl, hjx, hst6⟩)
      · have HS6 := Lib.hid (show BackSC vs.length vs J C W k (pre ++ [(k, x)]) C6 w6 w6 from ⟨hj6, Ext.refl _, by simp; omega, HN.out, HS.out.st.then hst6 (fun b hb h => by
          rcases HS.out.sub b h with h | h
          · exact h
          · omega), fun b hb => by
          rcases hsub6 b hb with h | h
          · exact HS.out.sub b h
          · exact .inr (by omega)⟩)
        clear hj6 hst6 hsub6 hy c0
        gi_wp2_with fail
        go_roundw
        case rel => exact ⟨k, _, C6, w6, by go_num, HS6.out⟩
        case measure => simp [intOf]
      · gi_wp2_with fail
        refine bodyPost_ret (v := .tuple #[]) (by simp [results, Tryz.results57, go_sem]) rfl ?_
        exact ⟨⟨_, rfl⟩, .inr ⟨_, w6, trivial, hjx, Ext.refl _⟩⟩
end Go.Proofs.YtpapoalgocmlaaaGreat
namespace Go.Proofs.YtpapoalgocmlaaaGreat
open Go.RowKit
set_option linter.unusedVariables false
def plainOpE (f : FuncId) : Op → Bool
  | .call c => match c.callee with
    | .value (.func k) => k == f
    | _ => plainOpD (.call c)
  | o => plainOpD o
theorem plain_rowE {P : Program} {f : FuncId} (eg : ∀ args w, (callFunc f args).run P w = .ok (.enter f args) w) {a : Act} {o : Oper} {w w' : World} (h : plainOpE f o.op = true) (row : String) (args : Array Value) : (execOp a.eval o).run P w ≠ .ok (.row row args) w' := by
  cases hd : plainOpD o.op with
  | true => exact plain_rowD hd row args
  | false =>
    cases ho : o.op with
    | call c =>
      rw [ho] at h hd
      cases hc : c.callee with
      | value v =>
        cases v with
        | func k =>
          simp only [plainOpE, hc] at h
          obtain rfl : k = f := by simpa using h
          unfold execOp
          intro h'
          simp [ho, resolve, hc, Act.eval, invoke, go_sem, eg] at h'
        | _ =>
          simp only [plainOpE, hc] at h
          rw [hd] at h; cases h
      | _ =>
        simp only [plainOpE, hc] at h
        rw [hd] at h; cases h
    | _ =>
      rw [ho] at h hd
      simp only [plainOpE] at h
      rw [hd] at h; cases h
theorem plain_no_deferE {f : FuncId} {o : Oper} (h : plainOpE f o.op = true) : ∀ c, o.op ≠ .defer c := fun c e => by rw [e] at h; simp [plainOpE, plainOpD] at h
theorem wpOpIn_of_plainE {P : Program} {f : FuncId} (eg : ∀ args w, (callFunc f args).run P w = .ok (.enter f args) w) {ops : Array Oper} {Q : Exit → Act → World → Prop} {l n : Nat} (hp : ∀ (i : Nat) (o : Oper), ops[i]? = some o → plainOpE f o.op = true) (hQ : ¬ LetsOut Q) {i : Nat} {K K' : Act → World → Prop} {a : Act} {w : World}
    (hK : ∀ a w, K a w → K' a w) (h : wpOp P ops Q i K a w) : wpOpIn (Fence.wide.inRound l) n P ops Q i K' a w := by
  unfold wpOp at h
  unfold wpOpIn
  cases ho : ops[i]? with
  | none => simp only [ho] at h ⊢; exact hK _ _ h
  | some o =>
    simp only [ho] at h ⊢
    split at h
    · rename_i hw
      rw [if_pos hw]
      rcases h with h | ⟨-, h⟩
      · unfold Oper.wpIn
        refine ⟨fun _ _ => trivial, ?_⟩
        rw [show (Fence.wide.inRound l).round = some l from rfl, Oper.semAt_some l _ o (plain_no_deferE (hp i o ho))]
        unfold Oper.wp at h
        have hr := fun row args w' => plain_rowE (P := P) eg (a := a) (w := w) (w' := w') (hp i o ho) row args
        generalize (execOp a.eval o).run P w = r at *
        cases r with
        | ok x w' =>
          cases x <;> simp only [Oper.upon, Oper.uponIn] at h ⊢
          case value v => exact hK _ _ h
          case skip => exact hK _ _ h
          case defer d => exact hK _ _ h
          case enter f args =>
            refine ⟨(fun hd => by simp [Fence.wide] at hd), (CallsIn.inRound l (callsIn_wide.2 h)).mono fun e w'' he => ?_⟩
            cases e with
            | returned v => exact hK _ _ he
            | panicked c => exact he
            | outgrown => exact he
          case row row args => exact absurd rfl (hr row args w')
        | halt x w' => cases x <;> simp only [Oper.upon, Oper.uponIn] at h ⊢ <;> exact h
      · exact absurd h hQ
    · rename_i hw
      rw [if_neg hw]
      exact ⟨fun _ _ => trivial, hK _ _ h⟩
theorem wpAnyIn_of_plainE {P : Program} {f : FuncId} (eg : ∀ args w, (callFunc f args).run P w = .ok (.enter f args) w) {md : Region.Mode} {ops : Array Oper} {Q : Exit → Act → World → Prop} {S : World → Prop} {l n : Nat} (hp : ∀ (i : Nat) (o : Oper), ops[i]? = some o → plainOpE f o.op = true) (hQ : ¬ LetsOut Q) :
    ∀ fuel listed a w, wpAnyH P md ops Q S fuel listed a w → wpAnyIn (Fence.wide.inRound l) n P md ops Q fuel listed a w := by
  intro fuel
  induction fuel with
  | zero => exact fun _ _ _ h => h
  | succ fuel ih =>
    intro listed a w h
    exact ⟨h.1, fun i hi => wpOpIn_of_plainE eg hp hQ (fun a' w' h' => ih _ a' w' h'.2) (h.2 i hi)⟩
theorem wpIn_region_roundE {P : Program} {f : FuncId} (eg : ∀ args w, (callFunc f args).run P w = .ok (.enter f args) w) {id l n : Nat} {ops : Array Oper} {Q : Exit → Act → World → Prop} {S : World → Prop} {a : Act} {w : World} (hp : (ops.all fun o => plainOpE f o.op) = true) (hQ : ¬ LetsOut Q) (hm : P.follows .mixedOrders = true) (hS : S w.drew)
    (h : S w.drew → wpAnyH P .any ops Q S ops.size (Array.replicate ops.size false) a w.drew) : (Code.region id ops true).wpIn (Fence.wide.inRound l) n P Q a w :=
  wpIn_region_any hm (wpAnyIn_of_plainE eg (fun i o ho => by
    have := Array.all_eq_true.1 hp i (Array.getElem?_eq_some_iff.1 ho).1
    rwa [(Array.getElem?_eq_some_iff.1 ho).2] at this) hQ _ _ _ _ (h hS))
end Go.Proofs.YtpapoalgocmlaaaGreat
namespace Go.Proofs.YtpapoalgocmlaaaGreat
open Go.RowKit Go.Shelf
set_option linter.unusedVariables false
set_option linter.unusedSimpArgs false
attribute [local go_sem] Oper.semAt_some
def BackPost (l : List Chg) (w : World) (e : Ending) (w' : World) : Prop :=
  ∃ (s : Sl) (xs : List CE), e = .returned (.slice s.a xs.length s.c) ∧ xs.map CE.c = backC l ∧ Ext w w' ∧ CS w' (In w.heap.size w'.heap.size) s xs
def S15 (b : Nat) (x : CE) (w : World) : Prop :=
  w.cell? ⟨b, 0, none⟩ = some (.string x.c.k) ∧ w.cell? ⟨b, 1, none⟩ = some (.bool x.c.had) ∧ w.cell? ⟨b, 2, none⟩ = some (.int .i64 x.c.was.kind) ∧ w.cell? ⟨b, 3, none⟩ = some (.bool x.c.was.b) ∧ w.cell? ⟨b, 4, none⟩ = some (.int .i64 x.c.was.i) ∧ w.cell? ⟨b, 5, none⟩ = some (.string x.c.was.t) ∧ w.cell? ⟨b, 6, none⟩ = some (.slice x.slw.a x.c.was.l.length x.slw.c) ∧ w.cell? ⟨b, 7, none⟩ = some (.slice x.sow.a x.c.was.ok.length x.sow.c) ∧
    w.cell? ⟨b, 8, none⟩ = some (.bool x.c.has) ∧ w.cell? ⟨b, 9, none⟩ = some (.int .i64 x.c.is_.kind) ∧ w.cell? ⟨b, 10, none⟩ = some (.bool x.c.is_.b) ∧ w.cell? ⟨b, 11, none⟩ = some (.int .i64 x.c.is_.i) ∧ w.cell? ⟨b, 12, none⟩ = some (.string x.c.is_.t) ∧ w.cell? ⟨b, 13, none⟩ = some (.slice x.sli.a x.c.is_.l.length x.sli.c) ∧ w.cell? ⟨b, 14, none⟩ = some (.slice x.soi.a x.c.is_.ok.length x.soi.c)
abbrev newC (x : CE) (li oi lw ow : Sl) : CE := ⟨turnC x.c, li, oi, lw, ow⟩
theorem s15_of {b : Nat} {x : CE} {w w' : World} (h : S15 b x w) (hc : ∀ o, w'.cell? ⟨b, o, none⟩ = w.cell? ⟨b, o, none⟩) : S15 b x w' := by
  unfold S15 at h ⊢
  simp only [hc]
  exact h
theorem s15_wr {w w' w'' : World} {row : Option Nat} {b : Nat} {x : CE} (h : Wr w' w'' row) (hx : Ext w w') (hn : row ≠ some b) (hl : b < w.heap.size) (hs : S15 b x w) : S15 b x w'' := s15_of hs fun o => (h.cell0 (o := o) hx hn hl).1
theorem s15_set {w : World} {b L : Nat} {x : CE} {v : Value} (hs : S15 b x w) (hn : ¬ b = L) : S15 b x (w.setCell ⟨L, 0, none⟩ v) := s15_of hs fun o => World.cell?_setCell_far _ _ _ _ (fun e => hn (by first | exact e | exact e.symm))
theorem Blk.s15 {w : World} {b : Nat} {t : TypeId} {x : CE} (h : Blk w b t x.cells) : S15 b x w := h.c15
set_option maxRecDepth 100000 in
set_option maxHeartbeats 8000000 in
theorem back9_any {w : World} {s : Sl} {cs : List CE} (hs : CS w (Lt w.heap.size) s cs) (hl : cs.length ≤ 1000000) : Calls Tryz.prog 11 #[.slice s.a cs.length s.c] w (BackPost (cs.map CE.c) w) := by
  obtain ⟨i0, hi, hz0, hz1, hz2⟩ := info_parts Tryz.infoChange
  obtain ⟨al, hal⟩ : ∃ al, cs.map CE.c = al := ⟨_, rfl⟩
  rw [hal]
  have HAL := Lib.hid hal
  have HS := Lib.hid hs
  clear hs hal
  refine (callsIn_wide (n := 6)).1 ?_
  refine callsIn_of_wp_marks Tryz.func11 rfl trivial ?_ rfl
  simp only [Tryz.ntmps11, List.size_toArray, List.length_cons, List.length_nil, Nat.reduceAdd, Nat.reduceSub, Array.replicate_succ, Array.replicate_zero, List.push_toArray, List.append_toArray, List.nil_append, List.cons_append]
  gi_wp2_with fail
  have hx0 := (Ext.refl w).alloc #[.slice none 0 0] 36
  have hb0 := Blk.new w 36 #[.slice none 0 0]
  have HX0 := Lib.hid hx0
  have HB0 := Lib.hid hb0
  have hz0l : w.heap.size + 1 ≤ (w.alloc (.cells #[.slice none 0 0] 36)).heap.size := by simp
  clear hx0 hb0
  refine ⟨trivial, ?_⟩
  refine (callsIn_wide.2 (backC_any _ s cs.length)).mono ?_
  generalize w.alloc (.cells #[.slice none 0 0] 36) = W0 at *
  rintro e w1 ⟨rfl, hx1, hbb⟩
  have HX1 := Lib.hid (HX0.out.trans hx1)
  have HL := Lib.hid (HB0.out.ext hx1)
  have hcs1 : CS w1 (Lt w.heap.size) s cs := HS.out.agree9 ((HX0.out.trans hx1).agree fun _ h => h)
  have HCS := Lib.hid hcs1
  have HSQ := Lib.hid (back_seqC hbb hcs1 (fun b (hb : b < w.heap.size) => Nat.lt_of_lt_of_le hb (HX0.out.trans hx1).size) hl)
  have hs1 := hx1.size
  have hL1 : w.heap.size < w1.heap.size := by omega
  have hB1 := hbb.lt
  clear hx1 hbb hcs1
  gi_wp2_with fail
  refine wpIn_rangeC (gf := 57) (lb := #[.pointer (some ⟨W0.heap.size, 0, none⟩)]) rfl (enters_of Tryz.func57 (by kernel_rfl) rfl) HSQ.out (Agree.refl _) (Nat.le_refl _)
    (fun b hb => hb.elim (fun (h : b < w.heap.size) => by omega) (fun h => by omega)) (fun _ => rfl)
    (fun pre C W => ∃ ys : List CE, CollC w1 w.heap.size ys C (fun _ => False) W ∧ ys.map CE.c = pre.map (fun q => turnC q.2.c) ∧ ys.length = pre.length ∧ pre.length ≤ 1000000) (fun _ _ _ => False) (fun b => b = w.heap.size)
    (fun b hb => ⟨by omega, fun h => h.elim (fun (h : b < w.heap.size) => by omega) (fun h => by omega)⟩)
    (fun h k => by obtain ⟨ys, h1, h2⟩ := h; exact ⟨ys, h1.turn hL1 k, h2⟩) (fun h k => h) (fun W hW hz => ⟨[], CollC.start HL.out hW hz, rfl, rfl, by simp⟩) ?round ?done ?stop
  case stop =>
    rintro D c pre W hD hSp hX
    exact hX.elim
  case round =>
    rintro pre C q W0' W1 ⟨ys, hcoll, hmap, hyl, hpl⟩ hlt hsz hnL hx01 hG
    obtain ⟨⟨s9, rfl, hblk, hown⟩, -, -, -, -, -⟩ := id hcoll
    obtain ⟨qi, x⟩ := q
    have hpl' : pre.length < cs.length := by have := hG.at_; dsimp only at this; omega
    have hxm : cs[qi]? = some x := hG.val
    have hb3 := Blk.new W1 56 x.cells
    have hx3 : Ext W1 (W1.alloc (.cells x.cells 56)) := (Ext.refl W1).alloc _ _
    have HB3 := Lib.hid hb3
    have HX3 := Lib.hid hx3
    have HI := Lib.hid hcoll
    have HMAP := Lib.hid hmap
    have HBLK := Lib.hid hblk
    have HOWN := Lib.hid hown
    have HX01 := Lib.hid hx01
    have HXM := Lib.hid hxm
    have HYL := Lib.hid hyl
    have hyb : ys.length < 1000000 := by omega
    clear hb3 hx3 hblk hown hcoll hmap hx01 hG hnL hlt hxm hyl
    dsimp only [encBC]
    gi_wp2_with fail
    refine ⟨HX3.out, fun W3 k3 => ?_⟩
    have hs1W := HX01.out.size
    have h13 : St (fun b => b = w1.heap.size + 1) W1 W3 := (HX3.out.st _).trans k3
    have h03 : St (fun b => b = w1.heap.size + 1) W0' W3 := (HX01.out.st _).trans h13
    have hbv := k3.blk HB3.out (by omega)
    have hrow0 : ∀ b, s9.row = some b → w1.heap.size + 2 ≤ b ∧ b < W0'.heap.size := fun b hb => own_row HOWN.out hb
    have hL3 := h03.blk HBLK.out (by omega)
    have cL : W3.cell? ⟨w.heap.size, 0, none⟩ = some (.slice s9.a ys.length s9.c) := hL3.cell 0
    have fL := hL3.frozen 0
    have lL := hL3.lt
    have hs03 := h03.size
    have hs13 := h13.size
    have hst1 : St (fun b => b = w.heap.size ∨ b = w1.heap.size + 1) w1 W3 := (HI.out.st.mono fun i _ hi => .inl hi).trans (h03.mono fun i _ hi => .inr hi)
    have hcr : CR W3 (Lt w.heap.size) x := ((HCS.out.vals x (List.mem_of_getElem? HXM.out)).agree fun b (hb : b < w.heap.size) => hst1.block b (by omega) (by omega))
    have hcp := fun (W : World) (hW : Ext W3 W) (d : Val) (sl so : Sl) (hr : RV W3 (Lt w.heap.size) d sl so) => copy_any _ d (Nat.le_refl _) W sl so ((hr.agree (hW.agree fun i (hi : i < w.heap.size) => by omega)).mono fun i (hi : i < w.heap.size) => by have := hW.size; omega)
    have HCI := Lib.hid (fun (W : World) (hW : Ext W3 W) => hcp W hW x.c.is_ x.sli x.soi hcr.is_)
    have HCW := Lib.hid (fun (W : World) (hW : Ext W3 W) => hcp W hW x.c.was x.slw x.sow hcr.was)
    have HKEY := Lib.hid hcr.key
    have HSS := Lib.hid (fun (w' : World) (h : S15 W1.heap.size x w') => (show _ ∧ _ from h))
    have HS15 := Lib.hid (fun (W : World) (hW : Ext W3 W) => (hbv.ext hW).s15)
    have H03 := Lib.hid h03
    have HOWN3 := Lib.hid (own_agree HOWN.out h03.agree fun b hb => ⟨(hrow0 b hb).2, by have := (hrow0 b hb).1; omega⟩)
    have HL3 := Lib.hid hL3
    have hneL : s9.row ≠ some w.heap.size := fun e => by have := (hrow0 _ e).1; omega
    have hneV : s9.row ≠ some W1.heap.size := fun e => by have := (hrow0 _ e).2; omega
    have h63 : ys.length + 1 ≤ maxLen := by unfold maxLen; omega
    have hby : (ys.length + 1) * 208 ≤ 140737488355328 := by omega
    have lV := hbv.lt
    clear k3 h03 h13 hbv hL3 hst1 hcr hcp
    unfold CopyPost at HCI HCW
    gi_wp2_with fail
    refine wpIn_region_roundE (f := 29) (enters_of Tryz.func29 (by kernel_rfl) rfl) (S := (fun w' => S15 W1.heap.size x w')) (by kernel_rfl) (by rintro ⟨a, w, h⟩; exact h) (by kernel_rfl) ((HS15.out _ ((Ext.refl W3).drew))) (fun hHeld => ?_)
    refine held_on (i := 1) (d := (some 11)) (v := ?_) rfl rfl (by kernel_rfl) (by kernel_rfl) (by kernel_rfl) (fun _ _ _ h => h) (by rfl) hHeld ?_ ?_
    rotate_left
    focus (intro w hSw; have hSc := HSS.out w hSw; clear hSw; go_simp; first | done | with_reducible rfl)
    try simp only [Act.put, List.setIfInBounds_toArray, List.set_cons_zero, List.set_cons_succ]
    refine held_on (i := 2) (d := (some 12)) (v := ?_) rfl rfl (by kernel_rfl) (by kernel_rfl) (by kernel_rfl) (fun _ _ _ h => h) (by rfl) hHeld ?_ ?_
    rotate_left
    focus (intro w hSw; have hSc := HSS.out w hSw; clear hSw; go_simp; first | done | with_reducible rfl)
    try simp only [Act.put, List.setIfInBounds_toArray, List.set_cons_zero, List.set_cons_succ]
    refine held_on (i := 3) (d := (some 13)) (v := ?_) rfl rfl (by kernel_rfl) (by kernel_rfl) (by kernel_rfl) (fun _ _ _ h => h) (by rfl) hHeld ?_ ?_
    rotate_left
    focus (intro w hSw; have hSc := HSS.out w hSw; clear hSw; go_simp; first | done | with_reducible rfl)
    try simp only [Act.put, List.setIfInBounds_toArray, List.set_cons_zero, List.set_cons_succ]
    refine held_on (i := 4) (d := (some 14)) (v := ?_) rfl rfl (by kernel_rfl) (by kernel_rfl) (by kernel_rfl) (fun _ _ _ h => h) (by rfl) hHeld ?_ ?_
    rotate_left
    focus (intro w hSw; have hSc := HSS.out w hSw; clear hSw; go_simp; first | done | with_reducible rfl)
    try simp only [Act.put, List.setIfInBounds_toArray, List.set_cons_zero, List.set_cons_succ]
    refine held_on (i := 5) (d := (some 15)) (v := ?_) rfl rfl (by kernel_rfl) (by kernel_rfl) (by kernel_rfl) (fun _ _ _ h => h) (by rfl) hHeld ?_ ?_
    rotate_left
    focus (intro w hSw; have hSc := HSS.out w hSw; clear hSw; go_simp; first | done | with_reducible rfl)
    try simp only [Act.put, List.setIfInBounds_toArray, List.set_cons_zero, List.set_cons_succ]
    refine held_on (i := 6) (d := (some 16)) (v := ?_) rfl rfl (by kernel_rfl) (by kernel_rfl) (by kernel_rfl) (fun _ _ _ h => h) (by rfl) hHeld ?_ ?_
    rotate_left
    focus (intro w hSw; have hSc := HSS.out w hSw; clear hSw; go_simp; first | done | with_reducible rfl)
    try simp only [Act.put, List.setIfInBounds_toArray, List.set_cons_zero, List.set_cons_succ]
    refine held_on (i := 8) (d := (some 18)) (v := ?_) rfl rfl (by kernel_rfl) (by kernel_rfl) (by kernel_rfl) (fun _ _ _ h => h) (by rfl) hHeld ?_ ?_
    rotate_left
    focus (intro w hSw; have hSc := HSS.out w hSw; clear hSw; go_simp; first | done | with_reducible rfl)
    try simp only [Act.put, List.setIfInBounds_toArray, List.set_cons_zero, List.set_cons_succ]
    refine held_on (i := 9) (d := (some 19)) (v := ?_) rfl rfl (by kernel_rfl) (by kernel_rfl) (by kernel_rfl) (fun _ _ _ h => h) (by rfl) hHeld ?_ ?_
    rotate_left
    focus (intro w hSw; have hSc := HSS.out w hSw; clear hSw; go_simp; first | done | with_reducible rfl)
    try simp only [Act.put, List.setIfInBounds_toArray, List.set_cons_zero, List.set_cons_succ]
    refine held_on (i := 10) (d := (some 20)) (v := ?_) rfl rfl (by kernel_rfl) (by kernel_rfl) (by kernel_rfl) (fun _ _ _ h => h) (by rfl) hHeld ?_ ?_
    rotate_left
    focus (intro w hSw; have hSc := HSS.out w hSw; clear hSw; go_simp; first | done | with_reducible rfl)
    try simp only [Act.put, List.setIfInBounds_toArray, List.set_cons_zero, List.set_cons_succ]
    refine held_on (i := 11) (d := (some 21)) (v := ?_) rfl rfl (by kernel_rfl) (by kernel_rfl) (by kernel_rfl) (fun _ _ _ h => h) (by rfl) hHeld ?_ ?_
    rotate_left
    focus (intro w hSw; have hSc := HSS.out w hSw; clear hSw; go_simp; first | done | with_reducible rfl)
    try simp only [Act.put, List.setIfInBounds_toArray, List.set_cons_zero, List.set_cons_succ]
    refine held_two (i := 0) (j := 7) (by kernel_rfl) rfl rfl (by rfl) (by rfl) (fun K hK => ?_) (fun K hK => ?_)
    · go_simp
      skip
      refine hK.out _ _ (hHeld) (fun hHeld => ?_)
      clear hK K
      try simp only [Act.put, List.setIfInBounds_toArray, List.set_cons_zero, List.set_cons_succ]
      refine held_call (i := 7) (by kernel_rfl) rfl (by rfl) (fun K hK => ?_)
      go_simp
      (refine (HCI.out _ ((Ext.refl W3).drew)).mono ?_; rintro e w7 ⟨li, oi, rfl, hx7, hr7⟩; have H7 := Lib.hid (((Ext.refl W3).drew).trans hx7); have HR7 := Lib.hid hr7; have cL7 : w7.cell? ⟨w.heap.size, 0, none⟩ = some (.slice s9.a ys.length s9.c) := (HL3.out.ext H7.out).cell 0; clear hx7 hr7)
      refine hK.out _ _ (HS15.out _ H7.out) (fun hHeld => ?_)
      clear hK K
      try simp only [Act.put, List.setIfInBounds_toArray, List.set_cons_zero, List.set_cons_succ]
      refine held_call (i := 12) (by kernel_rfl) rfl (by rfl) (fun K hK => ?_)
      go_simp
      (refine (HCW.out _ H7.out).mono ?_; rintro e w8 ⟨lw, ow, rfl, hx8, hr8⟩; have HY8 := Lib.hid hx8; have H8 := Lib.hid (H7.out.trans hx8); have HR8 := Lib.hid hr8; have cL8 : w8.cell? ⟨w.heap.size, 0, none⟩ = some (.slice s9.a ys.length s9.c) := (HL3.out.ext H8.out).cell 0; have lL8 : w.heap.size < w8.heap.size := (HL3.out.ext H8.out).lt; have hs8 := H8.out.size; clear hx8 hr8)
      refine hK.out _ _ (HS15.out _ H8.out) (fun hHeld => ?_)
      clear hK K
      try simp only [Act.put, List.setIfInBounds_toArray, List.set_cons_zero, List.set_cons_succ]
      refine held_on (i := 13) (d := (some 23)) (v := ?_) rfl rfl (by kernel_rfl) (by kernel_rfl) (by kernel_rfl) (fun _ _ _ h => h) (by rfl) hHeld ?_ ?_
      rotate_left
      focus (intro w hSw; have hSc := HSS.out w hSw; clear hSw; go_simp; first | done | with_reducible rfl)
      try simp only [Act.put, List.setIfInBounds_toArray, List.set_cons_zero, List.set_cons_succ]
      refine held_call (i := 14) (by kernel_rfl) rfl (by rfl) (fun K hK => ?_)
      go_simp
      skip
      refine hK.out _ _ (HS15.out _ (H8.out.alloc _ _)) (fun hHeld => ?_)
      clear hK K
      try simp only [Act.put, List.setIfInBounds_toArray, List.set_cons_zero, List.set_cons_succ]
      refine held_call (i := 15) (by kernel_rfl) rfl (by rfl) (fun K hK => ?_)
      skip
      refine wp_append_x _ (.tmp 10) (.tmp 24) 36 rfl (w1.heap.size + 2) 56 i0 _ 15 208 Tryz.underlying36 hi hz0 hz1 hz2 rfl (by decide) s9 ys.length (flatC ys) (by rfl) (own_agree (own_agree HOWN3.out (H8.out.agree fun b (hb : b < W3.heap.size) => hb) (fun b hb => (own_row HOWN3.out hb).2)) (((Ext.refl w8).alloc (newC x li oi lw ow).cells 56).agree fun b (hb : b < w8.heap.size) => hb) (fun b hb => (by have := (hrow0 b hb).2; omega))) (fun b => b = w8.heap.size) ⟨some ⟨w8.heap.size, 0, none⟩, 1⟩ 1 (newC x li oi lw ow).cells.toList (by rfl) (Rd.block (Blk.new w8 56 (newC x li oi lw ow).cells) (by decide) rfl) (ce_one (newC x li oi lw ow)) h63 hby (by rw [World.size_alloc]; omega) ?_; intro s3 w5 hown5 hwr5 hs5; have h5 := hwr5.cell0 (o := 0) ((Ext.refl w8).alloc (newC x li oi lw ow).cells 56) hneL lL8; have cL5 : w5.cell? ⟨w.heap.size, 0, none⟩ = some (.slice s9.a ys.length s9.c) := h5.1.trans cL8; have lL5 := h5.2; have fL5 : w5.frozen? ⟨w.heap.size, 0, none⟩ = false := (hwr5.fz _ _).trans ((((Ext.refl w8).alloc (newC x li oi lw ow).cells 56).frozen (o := 0) lL8).trans ((H8.out.frozen (o := 0) lL).trans fL)); have hS5 : S15 W1.heap.size x w5 := s15_wr hwr5 ((Ext.refl w8).alloc (newC x li oi lw ow).cells 56) hneV (by omega) (HS15.out _ H8.out); have HO5 := Lib.hid hown5; have HW5 := Lib.hid hwr5; have HS5 := Lib.hid hs5; clear hown5 hwr5 hs5 h5
      refine hK.out _ _ (hS5) (fun hHeld => ?_)
      clear hK K
      try simp only [Act.put, List.setIfInBounds_toArray, List.set_cons_zero, List.set_cons_succ]
      refine held_call (i := 16) (by kernel_rfl) rfl (by rfl) (fun K hK => ?_)
      go_simp
      skip
      refine hK.out _ _ (s15_set hS5 (by omega)) (fun hHeld => ?_)
      clear hK K
      try simp only [Act.put, List.setIfInBounds_toArray, List.set_cons_zero, List.set_cons_succ]
      refine wpAnyH_done (by kernel_rfl) ?_ _
      gi_wp2_with fail
      have hdz : W3.drew.heap.size = W3.heap.size := rfl
      obtain ⟨e1, e2, e3, e4⟩ := collC_end (w := w1) (W3 := w8) (x := newC x li oi lw ow) (D1 := fun _ => False) hL1 HI.out HBLK.out HOWN.out (((H03.out.trans (H8.out.st _))).mono fun i _ hi => .inr hi) (fun b hb => hb.elim) (fun b hb => hb.elim) (fun b _ hb => hb) ⟨(HR7.out.agree (HY8.out.agree fun b hb => hb.2)).mono fun b hb => ⟨by have := hb.1; omega, by have := hb.2; have := HY8.out.size; omega, fun e => by have := hb.1; rcases e with e | (e | e) | e <;> first | exact e.elim | omega | (have := (hrow0 b e).2; omega)⟩, HR8.out.mono fun b hb => ⟨by have := hb.1; have := H7.out.size; omega, hb.2, fun e => by have := hb.1; have := H7.out.size; rcases e with e | (e | e) | e <;> first | exact e.elim | omega | (have := (hrow0 b e).2; omega)⟩, HKEY.out⟩ ((Ext.refl w8).alloc (newC x li oi lw ow).cells 56) HO5.out HW5.out HS5.out
      refine ⟨_, ⟨ys ++ [newC x li oi lw ow], e1, by rw [List.map_append, List.map_append, HMAP.out]; rfl, by rw [List.length_append, List.length_append, HYL.out]; rfl, by rw [List.length_append, List.length_singleton]; omega⟩, ?_, ?_, e4⟩
      · exact (H8.out.st _).trans e2
      · exact fun b hb => (e3 b hb).imp id fun h => by omega
    · go_simp
      (refine (HCI.out _ ((Ext.refl W3).drew)).mono ?_; rintro e w7 ⟨li, oi, rfl, hx7, hr7⟩; have H7 := Lib.hid (((Ext.refl W3).drew).trans hx7); have HR7 := Lib.hid hr7; have cL7 : w7.cell? ⟨w.heap.size, 0, none⟩ = some (.slice s9.a ys.length s9.c) := (HL3.out.ext H7.out).cell 0; clear hx7 hr7)
      refine hK.out _ _ (HS15.out _ H7.out) (fun hHeld => ?_)
      clear hK K
      try simp only [Act.put, List.setIfInBounds_toArray, List.set_cons_zero, List.set_cons_succ]
      refine held_two (i := 0) (j := 12) (by kernel_rfl) rfl rfl (by rfl) (by rfl) (fun K hK => ?_) (fun K hK => ?_)
      · go_simp
        skip
        refine hK.out _ _ (hHeld) (fun hHeld => ?_)
        clear hK K
        try simp only [Act.put, List.setIfInBounds_toArray, List.set_cons_zero, List.set_cons_succ]
        refine held_call (i := 12) (by kernel_rfl) rfl (by rfl) (fun K hK => ?_)
        go_simp
        (refine (HCW.out _ H7.out).mono ?_; rintro e w8 ⟨lw, ow, rfl, hx8, hr8⟩; have HY8 := Lib.hid hx8; have H8 := Lib.hid (H7.out.trans hx8); have HR8 := Lib.hid hr8; have cL8 : w8.cell? ⟨w.heap.size, 0, none⟩ = some (.slice s9.a ys.length s9.c) := (HL3.out.ext H8.out).cell 0; have lL8 : w.heap.size < w8.heap.size := (HL3.out.ext H8.out).lt; have hs8 := H8.out.size; clear hx8 hr8)
        refine hK.out _ _ (HS15.out _ H8.out) (fun hHeld => ?_)
        clear hK K
        try simp only [Act.put, List.setIfInBounds_toArray, List.set_cons_zero, List.set_cons_succ]
        refine held_on (i := 13) (d := (some 23)) (v := ?_) rfl rfl (by kernel_rfl) (by kernel_rfl) (by kernel_rfl) (fun _ _ _ h => h) (by rfl) hHeld ?_ ?_
        rotate_left
        focus (intro w hSw; have hSc := HSS.out w hSw; clear hSw; go_simp; first | done | with_reducible rfl)
        try simp only [Act.put, List.setIfInBounds_toArray, List.set_cons_zero, List.set_cons_succ]
        refine held_call (i := 14) (by kernel_rfl) rfl (by rfl) (fun K hK => ?_)
        go_simp
        skip
        refine hK.out _ _ (HS15.out _ (H8.out.alloc _ _)) (fun hHeld => ?_)
        clear hK K
        try simp only [Act.put, List.setIfInBounds_toArray, List.set_cons_zero, List.set_cons_succ]
        refine held_call (i := 15) (by kernel_rfl) rfl (by rfl) (fun K hK => ?_)
        skip
        refine wp_append_x _ (.tmp 10) (.tmp 24) 36 rfl (w1.heap.size + 2) 56 i0 _ 15 208 Tryz.underlying36 hi hz0 hz1 hz2 rfl (by decide) s9 ys.length (flatC ys) (by rfl) (own_agree (own_agree HOWN3.out (H8.out.agree fun b (hb : b < W3.heap.size) => hb) (fun b hb => (own_row HOWN3.out hb).2)) (((Ext.refl w8).alloc (newC x li oi lw ow).cells 56).agree fun b (hb : b < w8.heap.size) => hb) (fun b hb => (by have := (hrow0 b hb).2; omega))) (fun b => b = w8.heap.size) ⟨some ⟨w8.heap.size, 0, none⟩, 1⟩ 1 (newC x li oi lw ow).cells.toList (by rfl) (Rd.block (Blk.new w8 56 (newC x li oi lw ow).cells) (by decide) rfl) (ce_one (newC x li oi lw ow)) h63 hby (by rw [World.size_alloc]; omega) ?_; intro s3 w5 hown5 hwr5 hs5; have h5 := hwr5.cell0 (o := 0) ((Ext.refl w8).alloc (newC x li oi lw ow).cells 56) hneL lL8; have cL5 : w5.cell? ⟨w.heap.size, 0, none⟩ = some (.slice s9.a ys.length s9.c) := h5.1.trans cL8; have lL5 := h5.2; have fL5 : w5.frozen? ⟨w.heap.size, 0, none⟩ = false := (hwr5.fz _ _).trans ((((Ext.refl w8).alloc (newC x li oi lw ow).cells 56).frozen (o := 0) lL8).trans ((H8.out.frozen (o := 0) lL).trans fL)); have hS5 : S15 W1.heap.size x w5 := s15_wr hwr5 ((Ext.refl w8).alloc (newC x li oi lw ow).cells 56) hneV (by omega) (HS15.out _ H8.out); have HO5 := Lib.hid hown5; have HW5 := Lib.hid hwr5; have HS5 := Lib.hid hs5; clear hown5 hwr5 hs5 h5
        refine hK.out _ _ (hS5) (fun hHeld => ?_)
        clear hK K
        try simp only [Act.put, List.setIfInBounds_toArray, List.set_cons_zero, List.set_cons_succ]
        refine held_call (i := 16) (by kernel_rfl) rfl (by rfl) (fun K hK => ?_)
        go_simp
        skip
        refine hK.out _ _ (s15_set hS5 (by omega)) (fun hHeld => ?_)
        clear hK K
        try simp only [Act.put, List.setIfInBounds_toArray, List.set_cons_zero, List.set_cons_succ]
        refine wpAnyH_done (by kernel_rfl) ?_ _
        gi_wp2_with fail
        have hdz : W3.drew.heap.size = W3.heap.size := rfl
        obtain ⟨e1, e2, e3, e4⟩ := collC_end (w := w1) (W3 := w8) (x := newC x li oi lw ow) (D1 := fun _ => False) hL1 HI.out HBLK.out HOWN.out (((H03.out.trans (H8.out.st _))).mono fun i _ hi => .inr hi) (fun b hb => hb.elim) (fun b hb => hb.elim) (fun b _ hb => hb) ⟨(HR7.out.agree (HY8.out.agree fun b hb => hb.2)).mono fun b hb => ⟨by have := hb.1; omega, by have := hb.2; have := HY8.out.size; omega, fun e => by have := hb.1; rcases e with e | (e | e) | e <;> first | exact e.elim | omega | (have := (hrow0 b e).2; omega)⟩, HR8.out.mono fun b hb => ⟨by have := hb.1; have := H7.out.size; omega, hb.2, fun e => by have := hb.1; have := H7.out.size; rcases e with e | (e | e) | e <;> first | exact e.elim | omega | (have := (hrow0 b e).2; omega)⟩, HKEY.out⟩ ((Ext.refl w8).alloc (newC x li oi lw ow).cells 56) HO5.out HW5.out HS5.out
        refine ⟨_, ⟨ys ++ [newC x li oi lw ow], e1, by rw [List.map_append, List.map_append, HMAP.out]; rfl, by rw [List.length_append, List.length_append, HYL.out]; rfl, by rw [List.length_append, List.length_singleton]; omega⟩, ?_, ?_, e4⟩
        · exact (H8.out.st _).trans e2
        · exact fun b hb => (e3 b hb).imp id fun h => by omega
      · go_simp
        (refine (HCW.out _ H7.out).mono ?_; rintro e w8 ⟨lw, ow, rfl, hx8, hr8⟩; have HY8 := Lib.hid hx8; have H8 := Lib.hid (H7.out.trans hx8); have HR8 := Lib.hid hr8; have cL8 : w8.cell? ⟨w.heap.size, 0, none⟩ = some (.slice s9.a ys.length s9.c) := (HL3.out.ext H8.out).cell 0; have lL8 : w.heap.size < w8.heap.size := (HL3.out.ext H8.out).lt; have hs8 := H8.out.size; clear hx8 hr8)
        refine hK.out _ _ (HS15.out _ H8.out) (fun hHeld => ?_)
        clear hK K
        try simp only [Act.put, List.setIfInBounds_toArray, List.set_cons_zero, List.set_cons_succ]
        refine held_on (i := 13) (d := (some 23)) (v := ?_) rfl rfl (by kernel_rfl) (by kernel_rfl) (by kernel_rfl) (fun _ _ _ h => h) (by rfl) hHeld ?_ ?_
        rotate_left
        focus (intro w hSw; have hSc := HSS.out w hSw; clear hSw; go_simp; first | done | with_reducible rfl)
        try simp only [Act.put, List.setIfInBounds_toArray, List.set_cons_zero, List.set_cons_succ]
        refine held_two (i := 0) (j := 14) (by kernel_rfl) rfl rfl (by rfl) (by rfl) (fun K hK => ?_) (fun K hK => ?_)
        · go_simp
          skip
          refine hK.out _ _ (hHeld) (fun hHeld => ?_)
          clear hK K
          try simp only [Act.put, List.setIfInBounds_toArray, List.set_cons_zero, List.set_cons_succ]
          refine held_call (i := 14) (by kernel_rfl) rfl (by rfl) (fun K hK => ?_)
          go_simp
          skip
          refine hK.out _ _ (HS15.out _ (H8.out.alloc _ _)) (fun hHeld => ?_)
          clear hK K
          try simp only [Act.put, List.setIfInBounds_toArray, List.set_cons_zero, List.set_cons_succ]
          refine held_call (i := 15) (by kernel_rfl) rfl (by rfl) (fun K hK => ?_)
          skip
          refine wp_append_x _ (.tmp 10) (.tmp 24) 36 rfl (w1.heap.size + 2) 56 i0 _ 15 208 Tryz.underlying36 hi hz0 hz1 hz2 rfl (by decide) s9 ys.length (flatC ys) (by rfl) (own_agree (own_agree HOWN3.out (H8.out.agree fun b (hb : b < W3.heap.size) => hb) (fun b hb => (own_row HOWN3.out hb).2)) (((Ext.refl w8).alloc (newC x li oi lw ow).cells 56).agree fun b (hb : b < w8.heap.size) => hb) (fun b hb => (by have := (hrow0 b hb).2; omega))) (fun b => b = w8.heap.size) ⟨some ⟨w8.heap.size, 0, none⟩, 1⟩ 1 (newC x li oi lw ow).cells.toList (by rfl) (Rd.block (Blk.new w8 56 (newC x li oi lw ow).cells) (by decide) rfl) (ce_one (newC x li oi lw ow)) h63 hby (by rw [World.size_alloc]; omega) ?_; intro s3 w5 hown5 hwr5 hs5; have h5 := hwr5.cell0 (o := 0) ((Ext.refl w8).alloc (newC x li oi lw ow).cells 56) hneL lL8; have cL5 : w5.cell? ⟨w.heap.size, 0, none⟩ = some (.slice s9.a ys.length s9.c) := h5.1.trans cL8; have lL5 := h5.2; have fL5 : w5.frozen? ⟨w.heap.size, 0, none⟩ = false := (hwr5.fz _ _).trans ((((Ext.refl w8).alloc (newC x li oi lw ow).cells 56).frozen (o := 0) lL8).trans ((H8.out.frozen (o := 0) lL).trans fL)); have hS5 : S15 W1.heap.size x w5 := s15_wr hwr5 ((Ext.refl w8).alloc (newC x li oi lw ow).cells 56) hneV (by omega) (HS15.out _ H8.out); have HO5 := Lib.hid hown5; have HW5 := Lib.hid hwr5; have HS5 := Lib.hid hs5; clear hown5 hwr5 hs5 h5
          refine hK.out _ _ (hS5) (fun hHeld => ?_)
          clear hK K
          try simp only [Act.put, List.setIfInBounds_toArray, List.set_cons_zero, List.set_cons_succ]
          refine held_call (i := 16) (by kernel_rfl) rfl (by rfl) (fun K hK => ?_)
          go_simp
          skip
          refine hK.out _ _ (s15_set hS5 (by omega)) (fun hHeld => ?_)
          clear hK K
          try simp only [Act.put, List.setIfInBounds_toArray, List.set_cons_zero, List.set_cons_succ]
          refine wpAnyH_done (by kernel_rfl) ?_ _
          gi_wp2_with fail
          have hdz : W3.drew.heap.size = W3.heap.size := rfl
          obtain ⟨e1, e2, e3, e4⟩ := collC_end (w := w1) (W3 := w8) (x := newC x li oi lw ow) (D1 := fun _ => False) hL1 HI.out HBLK.out HOWN.out (((H03.out.trans (H8.out.st _))).mono fun i _ hi => .inr hi) (fun b hb => hb.elim) (fun b hb => hb.elim) (fun b _ hb => hb) ⟨(HR7.out.agree (HY8.out.agree fun b hb => hb.2)).mono fun b hb => ⟨by have := hb.1; omega, by have := hb.2; have := HY8.out.size; omega, fun e => by have := hb.1; rcases e with e | (e | e) | e <;> first | exact e.elim | omega | (have := (hrow0 b e).2; omega)⟩, HR8.out.mono fun b hb => ⟨by have := hb.1; have := H7.out.size; omega, hb.2, fun e => by have := hb.1; have := H7.out.size; rcases e with e | (e | e) | e <;> first | exact e.elim | omega | (have := (hrow0 b e).2; omega)⟩, HKEY.out⟩ ((Ext.refl w8).alloc (newC x li oi lw ow).cells 56) HO5.out HW5.out HS5.out
          refine ⟨_, ⟨ys ++ [newC x li oi lw ow], e1, by rw [List.map_append, List.map_append, HMAP.out]; rfl, by rw [List.length_append, List.length_append, HYL.out]; rfl, by rw [List.length_append, List.length_singleton]; omega⟩, ?_, ?_, e4⟩
          · exact (H8.out.st _).trans e2
          · exact fun b hb => (e3 b hb).imp id fun h => by omega
        · go_simp
          skip
          refine hK.out _ _ (HS15.out _ (H8.out.alloc _ _)) (fun hHeld => ?_)
          clear hK K
          try simp only [Act.put, List.setIfInBounds_toArray, List.set_cons_zero, List.set_cons_succ]
          refine held_call (i := 0) (by kernel_rfl) rfl (by rfl) (fun K hK => ?_)
          go_simp
          skip
          refine hK.out _ _ (hHeld) (fun hHeld => ?_)
          clear hK K
          try simp only [Act.put, List.setIfInBounds_toArray, List.set_cons_zero, List.set_cons_succ]
          refine held_call (i := 15) (by kernel_rfl) rfl (by rfl) (fun K hK => ?_)
          skip
          refine wp_append_x _ (.tmp 10) (.tmp 24) 36 rfl (w1.heap.size + 2) 56 i0 _ 15 208 Tryz.underlying36 hi hz0 hz1 hz2 rfl (by decide) s9 ys.length (flatC ys) (by rfl) (own_agree (own_agree HOWN3.out (H8.out.agree fun b (hb : b < W3.heap.size) => hb) (fun b hb => (own_row HOWN3.out hb).2)) (((Ext.refl w8).alloc (newC x li oi lw ow).cells 56).agree fun b (hb : b < w8.heap.size) => hb) (fun b hb => (by have := (hrow0 b hb).2; omega))) (fun b => b = w8.heap.size) ⟨some ⟨w8.heap.size, 0, none⟩, 1⟩ 1 (newC x li oi lw ow).cells.toList (by rfl) (Rd.block (Blk.new w8 56 (newC x li oi lw ow).cells) (by decide) rfl) (ce_one (newC x li oi lw ow)) h63 hby (by rw [World.size_alloc]; omega) ?_; intro s3 w5 hown5 hwr5 hs5; have h5 := hwr5.cell0 (o := 0) ((Ext.refl w8).alloc (newC x li oi lw ow).cells 56) hneL lL8; have cL5 : w5.cell? ⟨w.heap.size, 0, none⟩ = some (.slice s9.a ys.length s9.c) := h5.1.trans cL8; have lL5 := h5.2; have fL5 : w5.frozen? ⟨w.heap.size, 0, none⟩ = false := (hwr5.fz _ _).trans ((((Ext.refl w8).alloc (newC x li oi lw ow).cells 56).frozen (o := 0) lL8).trans ((H8.out.frozen (o := 0) lL).trans fL)); have hS5 : S15 W1.heap.size x w5 := s15_wr hwr5 ((Ext.refl w8).alloc (newC x li oi lw ow).cells 56) hneV (by omega) (HS15.out _ H8.out); have HO5 := Lib.hid hown5; have HW5 := Lib.hid hwr5; have HS5 := Lib.hid hs5; clear hown5 hwr5 hs5 h5
          refine hK.out _ _ (hS5) (fun hHeld => ?_)
          clear hK K
          try simp only [Act.put, List.setIfInBounds_toArray, List.set_cons_zero, List.set_cons_succ]
          refine held_call (i := 16) (by kernel_rfl) rfl (by rfl) (fun K hK => ?_)
          go_simp
          skip
          refine hK.out _ _ (s15_set hS5 (by omega)) (fun hHeld => ?_)
          clear hK K
          try simp only [Act.put, List.setIfInBounds_toArray, List.set_cons_zero, List.set_cons_succ]
          refine wpAnyH_done (by kernel_rfl) ?_ _
          gi_wp2_with fail
          have hdz : W3.drew.heap.size = W3.heap.size := rfl
          obtain ⟨e1, e2, e3, e4⟩ := collC_end (w := w1) (W3 := w8) (x := newC x li oi lw ow) (D1 := fun _ => False) hL1 HI.out HBLK.out HOWN.out (((H03.out.trans (H8.out.st _))).mono fun i _ hi => .inr hi) (fun b hb => hb.elim) (fun b hb => hb.elim) (fun b _ hb => hb) ⟨(HR7.out.agree (HY8.out.agree fun b hb => hb.2)).mono fun b hb => ⟨by have := hb.1; omega, by have := hb.2; have := HY8.out.size; omega, fun e => by have := hb.1; rcases e with e | (e | e) | e <;> first | exact e.elim | omega | (have := (hrow0 b e).2; omega)⟩, HR8.out.mono fun b hb => ⟨by have := hb.1; have := H7.out.size; omega, hb.2, fun e => by have := hb.1; have := H7.out.size; rcases e with e | (e | e) | e <;> first | exact e.elim | omega | (have := (hrow0 b e).2; omega)⟩, HKEY.out⟩ ((Ext.refl w8).alloc (newC x li oi lw ow).cells 56) HO5.out HW5.out HS5.out
          refine ⟨_, ⟨ys ++ [newC x li oi lw ow], e1, by rw [List.map_append, List.map_append, HMAP.out]; rfl, by rw [List.length_append, List.length_append, HYL.out]; rfl, by rw [List.length_append, List.length_singleton]; omega⟩, ?_, ?_, e4⟩
          · exact (H8.out.st _).trans e2
          · exact fun b hb => (e3 b hb).imp id fun h => by omega
  case done =>
    rintro D qs C W5 hD hS ⟨ys, ⟨⟨s9, rfl, hblk, hown⟩, hv, hst, hsz', hdis, hdlo⟩, hmap, hyl, hpl⟩ hDk
    have hrow0 : ∀ b, s9.row = some b → w1.heap.size + 2 ≤ b ∧ b < W5.heap.size := fun b hb => own_row hown hb
    have cL : W5.cell? ⟨w.heap.size, 0, none⟩ = some (.slice s9.a ys.length s9.c) := hblk.cell 0
    have lL := hblk.lt
    have hDl := (Array.getElem?_eq_some_iff.1 hDk).1
    have hk' : St (fun b => b = D) W5 (W5.putObj D (.deferred none)) := St.put hDk rfl rfl
    have hsk := hk'.size
    have hbk : backC al = ys.map CE.c := by
      rw [hmap, show (qs.map fun q => turnC q.2.c) = (qs.map Prod.snd).map fun x => turnC x.c from by rw [List.map_map]; rfl, hS, ← HAL.out, backC, List.map_map, ← List.map_reverse]
      rfl
    have hql : qs.length = cs.length := by have := congrArg List.length hS; simpa using this
    have hfin : BackPost al w (.returned (.slice s9.a ys.length s9.c)) (W5.putObj D (.deferred none)) := by
      refine ⟨s9, ys, rfl, hbk.symm, ?_, ?_, fun x hx => ?_, by omega⟩
      · refine (HX1.out.step hst (fun b hb => by omega)).step hk' fun b hb => ?_
        have := HX1.out.size
        omega
      · have ho := own_agree hown hk'.agree fun b hb => ⟨(hrow0 b hb).2, by have := (hrow0 b hb).1; omega⟩
        exact (Rd.of_own ho).mono fun b hb => ⟨by have := hb.1; have := HX1.out.size; omega, hb.2⟩
      · exact ((hv x hx).agree (hk'.agree.mono fun b hb => ⟨hb.2.1, by have := hb.1; omega⟩)).mono fun b hb => ⟨by have := hb.1; have := HX1.out.size; omega, Nat.lt_of_lt_of_le hb.2.1 hsk⟩
    have HFIN := Lib.hid hfin
    have HDK := Lib.hid hDk
    clear hblk hown hv hst hdis hdlo hDk hk' hfin hS hmap hbk hql hyl
    gi_wp2_with fail
    refine ⟨by simp, .inl ⟨_, _, rfl, run_takeDeferred HDK.out, ?_⟩⟩
    refine ⟨.slice s9.a ys.length s9.c, ?_, HFIN.out⟩
    simp [results, Tryz.f11, go_sem]
end Go.Proofs.YtpapoalgocmlaaaGreat
