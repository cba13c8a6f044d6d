/- What value.Compare goes by: cmp.Compare of kinds, of numbers, strings.Compare, rank. -/
import Derived.Test.YtpapoalgocmlaaaMf
import Derived.Lib.Bytealg
namespace Go.Proofs.Ytpapoalgocmlaaa
open Go.RowKit
set_option linter.unusedVariables false
set_option linter.unusedSimpArgs false
theorem compareBytes_less : ∀ (a b : List UInt8), Lib.compareBytes a b = if Op.bytesLess a b then -1 else if Op.bytesLess b a then 1 else 0
  | [], [] => rfl
  | [], b :: v => by simp [Lib.compareBytes, Op.bytesLess]
  | a :: u, [] => by simp [Lib.compareBytes, Op.bytesLess]
  | a :: u, b :: v => by
    simp only [Lib.compareBytes, Op.bytesLess]
    by_cases h1 : a < b
    · simp [h1]
    · by_cases h2 : b < a
      · have h3 : ¬ a = b := fun e => by subst e; exact h1 h2
        have h4 : ¬ b = a := fun e => h3 e.symm
        simp [h1, h2, h3, h4]
      · have h3 : a = b := UInt8.le_antisymm (UInt8.not_lt.1 h2) (UInt8.not_lt.1 h1)
        subst h3
        simp [h1, compareBytes_less u v]
theorem compareBytes_text (a b : ByteArray) : Lib.compareBytes a.data.toList b.data.toList = textI a b := by
  rw [compareBytes_less]
  unfold textI klt
  rw [ByteArray.toList_eq, ByteArray.toList_eq]
set_option maxHeartbeats 1000000 in
set_option maxRecDepth 100000 in
theorem cmpString_any (w : World) (a b : ByteArray) : Calls Try.prog 194 #[.string a, .string b] w fun e w' => e = .returned (.int .i64 (textI a b)) ∧ w = w' := by
  rw [← compareBytes_text]
  go_enter Try.func194, Try.ntmps194
  go_wp2_with fail
  rw [run_callFunc_extern Try.func199 (by kernel_rfl) (by kernel_rfl) (by kernel_rfl) (e := Extern.BytealgCompare.compare) (by kernel_rfl), Lib.run_compareString]
  simp only [Result.andThen]
  rw [Oper.upon_value]
  go_wp2_with fail
  go_ret
  exact ⟨rfl, rfl⟩
set_option maxRecDepth 100000 in
theorem stringsCompare_any (w : World) (a b : ByteArray) : Calls Try.prog 182 #[.string a, .string b] w fun e w' => e = .returned (.int .i64 (textI a b)) ∧ w = w' := by
  have h := cmpString_any w a b
  go_enter Try.func182, Try.ntmps182
  go_wp2_with fail
  refine h.mono ?_
  rintro e w1 ⟨rfl, rfl⟩
  go_wp2_with fail
  go_ret
  exact ⟨rfl, rfl⟩
theorem rank_any (w : World) (b : Bool) : Calls Try.prog 180 #[.bool b] w fun e w' => e = .returned (.int .i64 (if b then 1 else 0)) ∧ w = w' := by
  cases b
  all_goals
    go_enter Try.func180, Try.ntmps180
    go_wp2_with fail
    go_ret
    exact ⟨rfl, rfl⟩
theorem isNaNKind_any (w : World) (a : Int) : Calls Try.prog 192 #[.int .i64 a] w fun e w' => e = .returned (.bool false) ∧ w = w' := by
  go_enter Try.func192, Try.ntmps192
  go_wp2_with fail
  go_ret
  exact ⟨by simp, rfl⟩
theorem compareKind_any (w : World) (a b : Int) : Calls Try.prog 179 #[.int .i64 a, .int .i64 b] w fun e w' => e = .returned (.int .i64 (numI a b)) ∧ w = w' := by
  have hna := isNaNKind_any w a
  have hnb := isNaNKind_any w b
  have hcase : (numI a b = -1 ∧ a < b) ∨ (numI a b = 1 ∧ ¬ a < b ∧ b < a) ∨ (numI a b = 0 ∧ ¬ a < b ∧ ¬ b < a) := by
    unfold numI; split
    · exact .inl ⟨rfl, by assumption⟩
    · split
      · exact .inr (.inl ⟨rfl, by assumption, by assumption⟩)
      · exact .inr (.inr ⟨rfl, by assumption, by assumption⟩)
  rcases hcase with ⟨hn, h1⟩ | ⟨hn, h1, h2⟩ | ⟨hn, h1, h2⟩
  all_goals
    rw [hn]
    clear hn
    go_enter Try.func179, Try.ntmps179
    go_wp2_with fail
    refine hna.mono ?_
    rintro e w1 ⟨rfl, rfl⟩
    go_wp2_with fail
    refine hnb.mono ?_
    rintro e w1 ⟨rfl, rfl⟩
    go_wp2_with fail
    go_ret
    exact ⟨rfl, rfl⟩
theorem isNaNint64_any (w : World) (a : Int) : Calls Try.prog 193 #[.int .i64 a] w fun e w' => e = .returned (.bool false) ∧ w = w' := by
  go_enter Try.func193, Try.ntmps193
  go_wp2_with fail
  go_ret
  exact ⟨by simp, rfl⟩
theorem compareint64_any (w : World) (a b : Int) : Calls Try.prog 181 #[.int .i64 a, .int .i64 b] w fun e w' => e = .returned (.int .i64 (numI a b)) ∧ w = w' := by
  have hna := isNaNint64_any w a
  have hnb := isNaNint64_any w b
  have hcase : (numI a b = -1 ∧ a < b) ∨ (numI a b = 1 ∧ ¬ a < b ∧ b < a) ∨ (numI a b = 0 ∧ ¬ a < b ∧ ¬ b < a) := by
    unfold numI; split
    · exact .inl ⟨rfl, by assumption⟩
    · split
      · exact .inr (.inl ⟨rfl, by assumption, by assumption⟩)
      · exact .inr (.inr ⟨rfl, by assumption, by assumption⟩)
  rcases hcase with ⟨hn, h1⟩ | ⟨hn, h1, h2⟩ | ⟨hn, h1, h2⟩
  all_goals
    rw [hn]
    clear hn
    go_enter Try.func181, Try.ntmps181
    go_wp2_with fail
    refine hna.mono ?_
    rintro e w1 ⟨rfl, rfl⟩
    go_wp2_with fail
    refine hnb.mono ?_
    rintro e w1 ⟨rfl, rfl⟩
    go_wp2_with fail
    go_ret
    exact ⟨rfl, rfl⟩
theorem isNaNint_any (w : World) (a : Int) : Calls Try.prog 200 #[.int .i64 a] w fun e w' => e = .returned (.bool false) ∧ w = w' := by
  go_enter Try.func200, Try.ntmps200
  go_wp2_with fail
  go_ret
  exact ⟨by simp, rfl⟩
theorem compareint_any (w : World) (a b : Int) : Calls Try.prog 195 #[.int .i64 a, .int .i64 b] w fun e w' => e = .returned (.int .i64 (numI a b)) ∧ w = w' := by
  have hna := isNaNint_any w a
  have hnb := isNaNint_any w b
  have hcase : (numI a b = -1 ∧ a < b) ∨ (numI a b = 1 ∧ ¬ a < b ∧ b < a) ∨ (numI a b = 0 ∧ ¬ a < b ∧ ¬ b < a) := by
    unfold numI; split
    · exact .inl ⟨rfl, by assumption⟩
    · split
      · exact .inr (.inl ⟨rfl, by assumption, by assumption⟩)
      · exact .inr (.inr ⟨rfl, by assumption, by assumption⟩)
  rcases hcase with ⟨hn, h1⟩ | ⟨hn, h1, h2⟩ | ⟨hn, h1, h2⟩
  all_goals
    rw [hn]
    clear hn
    go_enter Try.func195, Try.ntmps195
    go_wp2_with fail
    refine hna.mono ?_
    rintro e w1 ⟨rfl, rfl⟩
    go_wp2_with fail
    refine hnb.mono ?_
    rintro e w1 ⟨rfl, rfl⟩
    go_wp2_with fail
    go_ret
    exact ⟨rfl, rfl⟩
end Go.Proofs.Ytpapoalgocmlaaa
