/- sort.Search: the least number at which a rising test holds, whatever closure it is handed (of two captured variables). -/
import Derived.Test.YtpapoalgocmlaaaProg
import Derived.Test.YtpapoalgocmlaaaMem
namespace Go.Proofs.Ytpapoalgocmlaaa
open Go.RowKit

/-- What sort.Search hands back. -/
def SearchPost (n : Nat) (p : Nat → Bool) (w : World) (e : Ending) (w' : World) : Prop :=
  ∃ k : Nat, e = .returned (.int .i64 k) ∧ k ≤ n ∧ (∀ i, i < k → p i = false) ∧ (∀ i, k ≤ i → i < n → p i = true) ∧ Ext w w'

set_option maxHeartbeats 400000 in
theorem search_any (g : Nat) (v1 v2 : Value) (n : Nat) (p : Nat → Bool) (w : World) (eg : ∀ args w, (callFunc g args).run Try.prog w = .ok (.enter g args) w) (hn : n < 4611686018427387904)
    (hg : ∀ (i : Nat) (W : World), i < n → Ext w W → Calls Try.prog g #[.int .i64 i, v1, v2] W fun e w' => e = .returned (.bool (p i)) ∧ Ext W w')
    (hm : ∀ i j, i ≤ j → j < n → p i = true → p j = true) :
    Calls Try.prog 142 #[.int .i64 n, .func (.func g) #[] #[v1, v2]] w (SearchPost n p w) := by
  have HG := Lib.hid hg
  have HM := Lib.hid hm
  clear hg hm
  go_enter Try.func142, Try.ntmps142
  go_wp2_with fail
  go_loopw [5, 6] (fun i j wr => ∃ a b : Nat, i = .int .i64 a ∧ j = .int .i64 b ∧ a ≤ b ∧ b ≤ n ∧ (∀ i, i < a → p i = false) ∧ (∀ i, b ≤ i → i < n → p i = true) ∧ Ext w wr) (fun i j _ => (intOf j).toNat - (intOf i).toNat)
  case atStart => exact ⟨0, n, rfl, rfl, Nat.zero_le _, Nat.le_refl _, fun _ h => absurd h (by omega), fun _ h h' => absurd h (by omega), Ext.refl _⟩
  case round =>
    obtain ⟨a, b, rfl, rfl, hab, hbn, hlo, hhi, hx⟩ := hrel
    have HLO := Lib.hid hlo
    have HHI := Lib.hid hhi
    clear hlo hhi
    by_cases hlt : a < b
    · go_wp2_with fail
      rw [show ((a : Int) + b) / 2 = (((a + b) / 2 : Nat) : Int) from by omega]
      have hc := HG.out ((a + b) / 2) wr (by omega) hx
      generalize hh : (a + b) / 2 = h at *
      have h1 : a ≤ h := by omega
      have h2 : h < b := by omega
      clear hh
      cases hp : p h with
      | false =>
        rw [hp] at hc
        have HP := Lib.hid hp
        clear hp
        refine hc.mono ?_
        rintro e w1 ⟨rfl, hx1⟩
        go_wp2_with fail
        go_roundw
        case rel => exact ⟨h + 1, b, by go_num, rfl, by omega, hbn, fun i hi => by
          by_cases hpi : p i = true
          · have := HM.out i h (by omega) (by omega) hpi
            rw [HP.out] at this; cases this
          · simpa using hpi, HHI.out, hx.trans hx1⟩
        case measure => simp [intOf]; omega
      | true =>
        rw [hp] at hc
        have HP := Lib.hid hp
        clear hp
        refine hc.mono ?_
        rintro e w1 ⟨rfl, hx1⟩
        go_wp2_with fail
        go_roundw
        case rel => exact ⟨a, h, rfl, rfl, h1, by omega, HLO.out, fun i hi hin => HM.out h i hi hin HP.out, hx.trans hx1⟩
        case measure => simp [intOf]; omega
    · obtain rfl : a = b := by omega
      go_wp2_with fail
      go_ret
      exact ⟨a, rfl, hbn, HLO.out, HHI.out, hx⟩
end Go.Proofs.Ytpapoalgocmlaaa
