/- The document's log: First, At, Since. -/
import Derived.Test.YtpapoalgocmlaaaSince
namespace Go.Proofs.Ytpapoalgocmlaaa
open Go.RowKit
set_option linter.unusedVariables false
set_option linter.unusedSimpArgs false

def verV (f n : Nat) : List Value := (List.range n).map fun j => .int .u64 ((f + j : Nat) : Int)
theorem verV_len (f n : Nat) : (verV f n).length = n := by simp [verV]
theorem verV_at {f n j : Nat} (h : j < n) : (verV f n)[j]? = some (.int .u64 ((f + j : Nat) : Int)) := by simp [verV, h]
theorem verV_succ (f n : Nat) : verV f (n + 1) = verV f n ++ [.int .u64 ((f + n : Nat) : Int)] := by simp [verV, List.range_succ]
def numV (ns : List Nat) : List Value := ns.map fun (k : Nat) => Value.int .i64 (k : Int)
theorem numV_at {ns : List Nat} {j : Nat} (h : j < ns.length) : (numV ns)[j]? = some (.int .i64 (ns.getD j 0 : Nat)) := by
  simp [numV, h]
theorem drewN_two (w : World) (a b : Nat) : (w.drewN a).drewN b = w.drewN (a + b) := by
  simp [World.drewN, Nat.add_assoc]
/-- The document's log in memory: what was put, from version f on, each one's number. -/
structure RefL (w : World) (P keep f : Nat) (ns : List Nat) (sv sn : Sl) : Prop where
  blk : Blk w P 66 #[.int .i64 keep, .slice sv.a ns.length sv.c, .slice sn.a ns.length sn.c]
  rv : Rd w (fun b => b < w.heap.size ∧ P < b) 1 sv ns.length (verV f ns.length)
  rn : Rd w (fun b => b < w.heap.size ∧ P < b) 1 sn ns.length (numV ns)
  few : ns.length ≤ 1000
  small : f + ns.length ≤ 4611686018427388904
  keep1 : 1 ≤ keep ∧ keep ≤ 2000
theorem RefL.agree {w w' : World} {P keep f : Nat} {ns : List Nat} {sv sn : Sl} (h : RefL w P keep f ns sv sn) {F : Nat → Prop} (ha : Agree F w w') (hF : ∀ b, b < w.heap.size → P ≤ b → F b) (hs : w.heap.size ≤ w'.heap.size) : RefL w' P keep f ns sv sn :=
  ⟨h.blk.agree ha (hF _ h.blk.lt (Nat.le_refl _)), (h.rv.agree (ha.mono fun i hi => hF i hi.1 (Nat.le_of_lt hi.2))).mono fun i hi => ⟨Nat.lt_of_lt_of_le hi.1 hs, hi.2⟩, (h.rn.agree (ha.mono fun i hi => hF i hi.1 (Nat.le_of_lt hi.2))).mono fun i hi => ⟨Nat.lt_of_lt_of_le hi.1 hs, hi.2⟩, h.few, h.small, h.keep1⟩
theorem RefL.ext {w w' : World} {P keep f : Nat} {ns : List Nat} {sv sn : Sl} (h : RefL w P keep f ns sv sn) (he : Ext w w') : RefL w' P keep f ns sv sn :=
  h.agree (he.agree (F := Lt w.heap.size) fun _ h => h) (fun _ h _ => h) he.size
theorem RefL.below {w w' : World} {P keep f : Nat} {ns : List Nat} {sv sn : Sl} (h : RefL w P keep f ns sv sn) (he : Below w.heap.size w w') : RefL w' P keep f ns sv sn :=
  h.agree (Agree.of_below he (F := Lt w.heap.size) fun _ h => h) (fun _ h _ => h) he.size

set_option maxRecDepth 100000 in
set_option maxHeartbeats 400000 in
theorem first19 {w : World} {P keep f : Nat} {ns : List Nat} {sv sn : Sl} (h : RefL w P keep f ns sv sn) : Calls Try.prog 100 #[.pointer (some ⟨P, 0, none⟩)] w fun e w' => e = .returned (.int .i64 (ns.length - min ns.length keep : Nat)) ∧ ∃ q, w' = w.drewN q := by
  obtain ⟨c0, c1, c2⟩ := h.blk.c3
  have hk := h.keep1
  have hfew := h.few
  clear h
  obtain ⟨m, hm⟩ : ∃ m, ns.length = m := ⟨_, rfl⟩
  rw [hm] at c1 c2 hfew ⊢
  clear hm
  by_cases hlt : keep < m
  · have g1 : decide ((keep : Int) < (m : Int)) = true := decide_eq_true (by omega)
    have g1' : (keep : Int) < (m : Int) := by omega
    have hw1 : IntKind.i64.wrap ((m : Int) - (keep : Int)) = (m : Int) - (keep : Int) := by rw [IntKind.wrap_i64]; omega
    go_enter Try.func100, Try.ntmps100
    go_wp2_with fail
    go_quiet (fail)
    go_wp2_with fail
    go_quiet (fail)
    go_wp2_with fail
    go_ret
    refine ⟨?_, _, drewN_two _ _ _⟩
    rw [show ((m - min m keep : Nat) : Int) = (m : Int) - (keep : Int) from by omega]
    rfl
  · have g1 : decide ((keep : Int) < (m : Int)) = false := decide_eq_false (by omega)
    have g1' : ¬ (keep : Int) < (m : Int) := by omega
    go_enter Try.func100, Try.ntmps100
    go_wp2_with fail
    go_quiet (fail)
    go_wp2_with fail
    go_ret
    refine ⟨?_, _, rfl⟩
    rw [show ((m - min m keep : Nat) : Int) = 0 from by omega]
    rfl
theorem first19e {w : World} {P keep f : Nat} {ns : List Nat} {sv sn : Sl} (h : RefL w P keep f ns sv sn) : Calls Try.prog 100 #[.pointer (some ⟨P, 0, none⟩)] w fun e w' => e = .returned (.int .i64 (ns.length - min ns.length keep : Nat)) ∧ Ext w w' :=
  (first19 h).mono fun e w' ⟨h1, q, h2⟩ => ⟨h1, h2 ▸ (Ext.refl w).drewN q⟩

set_option maxRecDepth 100000 in
set_option maxHeartbeats 800000 in
theorem at19 {w : World} {P keep f : Nat} {ns : List Nat} {sv sn : Sl} (h : RefL w P keep f ns sv sn) (v : Nat) : Calls Try.prog 97 #[.pointer (some ⟨P, 0, none⟩), .int .u64 v] w fun e w' =>
    ((¬ (f ≤ v ∧ v - f < ns.length ∧ ns.length ≤ v - f + keep) ∧ e = .returned (.int .i64 (-1))) ∨ ((f ≤ v ∧ v - f < ns.length ∧ ns.length ≤ v - f + keep) ∧ e = .returned (.int .i64 (v - f : Nat)))) ∧ Ext w w' := by
  have hc := first19e h
  have HH := Lib.hid h
  have hk := h.keep1
  have hfew := h.few
  have hsm := h.small
  clear h
  go_enter Try.func97, Try.ntmps97
  go_wp2_with fail
  refine hc.mono ?_
  rintro e w1 ⟨rfl, hx1⟩
  have HX := Lib.hid hx1
  have hH := HH.out.ext hx1
  obtain ⟨-, c1, -⟩ := hH.blk.c3
  obtain ⟨b, o, hsl, hln, hcl⟩ := id hH.rv
  have HSL := Lib.hid hsl
  have HCL := Lib.hid hcl
  obtain ⟨m, hm⟩ : ∃ m, ns.length = m := ⟨_, rfl⟩
  obtain ⟨g, hg⟩ : ∃ g, m - min m keep = g := ⟨_, rfl⟩
  rw [hm] at c1 hfew hsm ⊢
  rw [hg]
  have HM := Lib.hid hm
  have HG := Lib.hid hg
  obtain ⟨K, hK⟩ : ∃ K, K = v - f := ⟨_, rfl⟩
  have HKV := Lib.hid hK
  clear hK
  clear hc hx1 hH hsl hcl hln hm hg
  go_wp2_with fail
  go_loopw [5] (fun q wr => ∃ j : Nat, g ≤ j ∧ j ≤ m ∧ q = .int .i64 j ∧ wr = w1 ∧ ∀ i, g ≤ i → i < j → f + i ≠ v) (fun q _ => m - (intOf q).toNat)
  case atStart => exact ⟨g, Nat.le_refl _, by have := HG.out; omega, rfl, rfl, fun i h1 h2 => by omega⟩
  case round =>
    obtain ⟨j, hj1, hj2, rfl, rfl, hno⟩ := hrel
    have HNO := Lib.hid hno
    clear hno
    by_cases hlt : j < m
    · have hlt' : (j : Int) < (m : Int) := by omega
      have hsl := HSL.out
      rw [HM.out] at hsl
      obtain ⟨ha, hc1, hc2⟩ := hsl.eq (by omega)
      rw [ha] at c1
      have hcv := HCL.out j _ (verV_at (by rw [HM.out]; exact hlt))
      have HA := Lib.hid ha
      clear hsl ha
      by_cases hv : f + j = v
      · have hv' : ((f + j : Nat) : Int) = (v : Int) := by omega
        rw [hv'] at hcv
        have HV := Lib.hid hv
        have HJ := Lib.hid hlt
        have HJ1 := Lib.hid hj1
        clear hv hv'
        go_wp2_with fail
        go_ret
        have hv := HV.out
        have hj := HJ.out
        have hjg := HJ1.out
        have hgg := HG.out
        have hmm := HM.out
        refine ⟨.inr ⟨⟨by omega, by omega, by omega⟩, ?_⟩, HX.out⟩
        rw [show v - f = j from by omega]; rfl
      · have hv' : ((((f + j : Nat) : Int)) == (v : Int)) = false := beq_eq_false_iff_ne.2 (by omega)
        have hv2 : ¬ ((f + j : Nat) : Int) = (v : Int) := by omega
        obtain ⟨u, hu⟩ : ∃ u : Int, ((f + j : Nat) : Int) = u := ⟨_, rfl⟩
        rw [hu] at hcv hv' hv2
        have HV := Lib.hid hv
        clear hv hu
        go_wp2_with fail
        go_roundw
        case rel => exact ⟨j + 1, by omega, hlt, by go_num, trivial, fun i h1 h2 => by
          rcases Nat.lt_or_ge i j with h3 | h3
          · exact HNO.out i h1 h3
          · obtain rfl : i = j := by omega
            exact HV.out⟩
        case measure => simp [intOf]; omega
    · have hlt' : ¬ (j : Int) < (m : Int) := by omega
      have key : ¬ (f ≤ v ∧ v - f < ns.length ∧ ns.length ≤ v - f + keep) := by
        have hmm := HM.out
        have hgg := HG.out
        have hkk := HKV.out
        rintro ⟨h1, h2, h3⟩
        rw [← hkk] at h2 h3
        exact HNO.out K (by omega) (by omega) (by omega)
      have KEY := Lib.hid key
      clear key
      go_wp2_with fail
      go_ret
      exact ⟨.inl ⟨by first | exact KEY.out | exact fun h1 h2 => Nat.lt_of_not_le fun h3 => KEY.out ⟨h1, h2, h3⟩, rfl⟩, HX.out⟩

set_option maxRecDepth 100000 in
set_option maxHeartbeats 1600000 in
theorem since19 {w : World} {P keep f : Nat} {ns : List Nat} {sv sn : Sl} (h : RefL w P keep f ns sv sn) (v : Nat) (hk : f ≤ v ∧ v - f < ns.length ∧ ns.length ≤ v - f + keep) :
    Calls Try.prog 98 #[.pointer (some ⟨P, 0, none⟩), .int .u64 v] w fun e w' => (∃ s : Nat, e = .returned (.int .i64 s) ∧ RunAt (fun i => ns.getD i 0) (ns.length - min ns.length keep) (v - f) s) ∧ Ext w w' := by
  have hc := at19 h v
  have HH := Lib.hid h
  have hkeep := h.keep1
  have hfew := h.few
  clear h
  obtain ⟨k, hkv⟩ : ∃ k, v - f = k := ⟨_, rfl⟩
  rw [hkv] at hk hc ⊢
  obtain ⟨k1, k2, k3⟩ := hk
  have HKV := Lib.hid hkv
  clear hkv
  go_enter Try.func98, Try.ntmps98
  go_wp2_with fail
  refine hc.mono ?_
  rintro e w1 ⟨⟨hn, -⟩ | ⟨-, rfl⟩, hx1⟩
  · exact absurd ⟨k1, k2, k3⟩ hn
  have hH := HH.out.ext hx1
  obtain ⟨-, -, c2⟩ := hH.blk.c3
  obtain ⟨b, o, hsl, hln, hcl⟩ := id hH.rn
  obtain ⟨m, hm⟩ : ∃ m, ns.length = m := ⟨_, rfl⟩
  obtain ⟨ha, hc1, hc2⟩ := hsl.eq (by omega)
  rw [ha] at c2
  have HCL := Lib.hid hcl
  have HX := Lib.hid hx1
  have hfi : ∀ W, (∃ q, W = w1.drewN q) → Calls Try.prog 100 #[.pointer (some ⟨P, 0, none⟩)] W fun e w' => e = .returned (.int .i64 (ns.length - min ns.length keep : Nat)) ∧ ∃ q, w' = W.drewN q := fun W hW => by
    obtain ⟨q, rfl⟩ := hW
    exact first19 (hH.ext ((Ext.refl w1).drewN q))
  obtain ⟨g, hg⟩ : ∃ g, ns.length - min ns.length keep = g := ⟨_, rfl⟩
  rw [hg] at hfi
  rw [hm] at c2 hfew k2 k3
  have hgk : g ≤ k := by omega
  have hkm : k < m := k2
  have HFI := Lib.hid hfi
  have HM := Lib.hid hm
  have HG := Lib.hid hg
  clear hc hx1 hH hsl hcl hln hm hg hfi ha hc1 hc2 k1 k2 k3
  go_wp2_with fail
  go_loopw [5] (fun q wr => ∃ i : Nat, g ≤ i ∧ i ≤ k ∧ q = .int .i64 i ∧ (∃ d, wr = w1.drewN d) ∧ ∀ t, i ≤ t → t ≤ k → ns.getD t 0 = ns.getD k 0) (fun q _ => (intOf q).toNat)
  case atStart => exact ⟨k, hgk, Nat.le_refl _, rfl, ⟨0, rfl⟩, fun t h1 h2 => (show t = k from by omega) ▸ rfl⟩
  case round =>
    obtain ⟨i, hi1, hi2, rfl, ⟨d, rfl⟩, hall⟩ := hrel
    have c2' : (w1.drewN d).cell? ⟨P, 2, none⟩ = some (.slice (some ⟨b, o, none⟩) m sn.c) := c2
    have HCL' := Lib.hid (show ∀ j u, (numV ns)[j]? = some u → (w1.drewN d).cell? ⟨b, o + j, none⟩ = some u from HCL.out)
    have hfi' : ∀ W, (∃ q, W = (w1.drewN d).drewN q) → Calls Try.prog 100 #[.pointer (some ⟨P, 0, none⟩)] W fun e w' => e = .returned (.int .i64 g) ∧ ∃ q, w' = W.drewN q := fun W hW => by
      obtain ⟨q, rfl⟩ := hW
      exact HFI.out _ ⟨_, drewN_two _ _ _⟩
    have HFI' := Lib.hid hfi'
    have HXd := Lib.hid (HX.out.drewN d)
    have hdd : ∀ q, ∃ d', (w1.drewN d).drewN q = w1.drewN d' := fun q => ⟨_, drewN_two _ _ _⟩
    have HDD := Lib.hid hdd
    have HALL := Lib.hid hall
    clear hall c2 hfi' hdd
    generalize w1.drewN d = W at *
    by_cases hlt : g < i
    · have hlt' : (g : Int) < (i : Int) := by omega
      have hltd : decide ((g : Int) < (i : Int)) = true := decide_eq_true hlt'
      have hw1 : IntKind.i64.wrap ((i : Int) - 1) = ((i - 1 : Nat) : Int) := by rw [IntKind.wrap_i64]; omega
      have hb1 : ((i - 1 : Nat) : Int) < (m : Int) := by omega
      have hb2 : (i : Int) < (m : Int) := by omega
      have e1 : W.cell? ⟨b, o + (i - 1), none⟩ = some (.int .i64 (ns.getD (i - 1) 0 : Nat)) := HCL'.out (i - 1) _ (numV_at (by rw [HM.out]; omega))
      have e2 : W.cell? ⟨b, o + i, none⟩ = some (.int .i64 (ns.getD i 0 : Nat)) := HCL'.out i _ (numV_at (by rw [HM.out]; omega))
      obtain ⟨p, hp⟩ : ∃ p, i - 1 = p := ⟨_, rfl⟩
      rw [hp] at hw1 hb1 e1
      obtain ⟨x1, hx1⟩ : ∃ x, ns.getD p 0 = x := ⟨_, rfl⟩
      obtain ⟨x2, hx2⟩ : ∃ x, ns.getD i 0 = x := ⟨_, rfl⟩
      rw [hx1] at e1
      rw [hx2] at e2
      have HP := Lib.hid hp
      have HX1 := Lib.hid hx1
      have HX2 := Lib.hid hx2
      clear hp hx1 hx2
      by_cases hxx : x1 = x2
      · subst hxx
        go_wp2_with fail
        go_quiet ((go_at_call 100; refine (HFI'.out _ ⟨_, rfl⟩).mono ?_; rintro e w2 ⟨rfl, q2, rfl⟩; first | exact ⟨rfl, _, drew3 ..⟩ | exact ⟨rfl, _, drewN_two ..⟩))
        go_wp2_with fail
        go_roundw
        case rel =>
          have hp := HP.out
          refine ⟨p, by omega, by omega, rfl, HDD.out _, fun t h1 h2 => ?_⟩
          rcases Nat.lt_or_ge t i with h3 | h3
          · obtain rfl : t = p := by omega
            rw [HX1.out, ← HX2.out]
            exact HALL.out i (Nat.le_refl _) hi2
          · exact HALL.out t h3 h2
        case measure => have hp := HP.out; simp [intOf]; omega
      · have hxb : ((x1 : Int) == (x2 : Int)) = false := beq_eq_false_iff_ne.2 (by omega)
        have hx2' : ¬ (x1 : Int) = (x2 : Int) := by omega
        have HNE := Lib.hid hxx
        clear hxx
        go_wp2_with fail
        go_quiet ((go_at_call 100; refine (HFI'.out _ ⟨_, rfl⟩).mono ?_; rintro e w2 ⟨rfl, q2, rfl⟩; first | exact ⟨rfl, _, drew3 ..⟩ | exact ⟨rfl, _, drewN_two ..⟩))
        go_wp2_with fail
        go_ret
        have hp := HP.out
        have hkv := HKV.out
        refine ⟨⟨i, rfl, ?_⟩, HXd.out.drewN _⟩
        rw [HG.out]
        refine ⟨hi1, hi2, HALL.out, .inr ?_⟩
        show ns.getD (i - 1) 0 ≠ ns.getD k 0
        rw [hp, HX1.out, ← HALL.out i (Nat.le_refl _) hi2, HX2.out]
        exact HNE.out
    · have hlt' : ¬ (g : Int) < (i : Int) := by omega
      have hltd : decide ((g : Int) < (i : Int)) = false := decide_eq_false hlt'
      obtain rfl : i = g := by omega
      go_wp2_with fail
      go_quiet ((go_at_call 100; refine (HFI'.out _ ⟨_, rfl⟩).mono ?_; rintro e w2 ⟨rfl, q2, rfl⟩; first | exact ⟨rfl, _, drew3 ..⟩ | exact ⟨rfl, _, drewN_two ..⟩))
      go_wp2_with fail
      go_ret
      refine ⟨⟨i, rfl, ?_⟩, HXd.out.drewN _⟩
      rw [HG.out]
      exact ⟨Nat.le_refl _, hi2, HALL.out, .inl rfl⟩
end Go.Proofs.Ytpapoalgocmlaaa
