/- What the theorem needs of the texts Nil12: no condition of its own. -/
import Derived.Deep.RegionLaw
import Derived.Lib.SliceRun
import Derived.Laws.IdiomStrings
import Derived.WalkArith
import Derived.WideKeyArgs
import Derived.ChangeOld
import Derived.Handed
import Derived.ProofKit
import Derived.OpenShut
import Derived.WalkKit
import Derived.OrdersIn
import Derived.Test.YtechahocffcbpaaGreatDoorPna
import Derived.Test.YtechahocffcbpaaGreatDoorPnb
import Derived.Test.YtechahocffcbpaaGreatDoorPnc
import Derived.Test.YtechahocffcbpaaGreatDoorPnd
import Derived.Test.YtechahocffcbpaaGreatDoorPne
set_option maxRecDepth 100000
set_option maxHeartbeats 4000000
namespace Go.Proofs.YtechahocffcbpaaGreatDoor
open Go.RowKit Go.Maps Go.Shelf
set_option linter.unusedVariables false
set_option linter.unusedSimpArgs false
theorem prefix_nil (w : World) (p : ByteArray) : Calls Tryz.prog 22 #[.pointer none, .string p] w fun e w' => e = .returned (.slice none 0 0) ∧ Nw w w' := by
  refine (callsIn_wide (n := 6)).1 ?_
  refine callsIn_of_wp_marks Tryz.func22 rfl trivial ?_ rfl
  simp only [Tryz.ntmps22, List.size_toArray, List.length_cons, List.length_nil, Nat.reduceAdd, Nat.reduceSub, Array.replicate_succ, Array.replicate_zero, List.push_toArray, List.append_toArray, List.nil_append, List.cons_append]
  gi_wp2_with fail
  refine ⟨.slice none 0 0, by simp [results, Tryz.results22, go_sem], rfl, Nw.of ?_⟩
  first | exact ((Ext.refl w).alloc _ _).alloc _ _ | exact (Ext.refl w).alloc _ _
theorem len_nil (w : World) : Calls Tryz.prog 19 #[.agg #[.pointer none]] w fun e w' => e = .returned (.int .i64 0) ∧ Nw w w' :=
  (treeLen_any (F := fun _ => False) (T := none) (fun b h => h.elim) trivial).mono fun e w' h => ⟨h.1, Nw.of h.2⟩
theorem get_nil2 (w : World) (k : ByteArray) : Calls Tryz.prog 11 #[.pointer none, .string k] w fun e w' => e = .returned (.tuple #[.agg #[.int .i64 0, .bool false, .int .i64 0, .string ByteArray.empty, .slice none 0 0, .slice none 0 0], .bool false]) ∧ Nw w w' := by
  go_enter Tryz.func11, Tryz.ntmps11
  go_wp2_with fail
  refine bodyPost_ret (v := .tuple #[.agg #[.int .i64 0, .bool false, .int .i64 0, .string ByteArray.empty, .slice none 0 0, .slice none 0 0], .bool false]) (by simp [results, Tryz.results11, go_sem]; rfl) rfl ?_
  exact ⟨rfl, Nw.of ((Ext.refl w).alloc _ _)⟩
theorem put_nil2 (w : World) : Calls Tryz.prog 10 #[.pointer none, .string kEo, .agg #[.int .i64 0, .bool false, .int .i64 0, .string ByteArray.empty, .slice none 0 0, .slice none 0 0]] w fun e w' => e = .returned (.int .i64 1) ∧ Nw w w' := put_ov_nil w kEo zeroV Sl.none Sl.none
theorem commit_nil2 (w : World) : Calls Tryz.prog 12 #[.pointer none] w fun e w' => e = .returned (.agg #[.pointer none]) ∧ Nw w w' := commit_nil w
theorem nil12 {w : World} (hL : Lib0 w) : Calls Tryz.prog 5 #[] w fun e w' => e = .returned (.bool true) ∧ Nw w w' := by
  have HL := Lib.hid hL
  clear hL
  go_enter Tryz.func5, Tryz.ntmps5
  go_wp2_with fail
  generalize hW0 : World.alloc w _ = w0
  have hn0 : Nw w w0 := by rw [← hW0]; exact Nw.of ((Ext.refl w).alloc _ _)
  have hz0 : OvAt (fun _ => False) w0 w.heap.size (od0 none) := by
    rw [← hW0]
    exact OvAt.fresh (F := fun _ => False) (T := none) (Blk.new w _ _) trivial trivial (fun b h => h.elim) id
  have HN0 := Lib.hid hn0
  have HZ := Lib.hid hz0
  clear hW0 hn0 hz0
  refine (get_nil2 _ _).mono ?_
  rintro e w1 ⟨rfl, hn1⟩
  have HN1 := Lib.hid hn1
  clear hn1
  go_wp2_with fail
  have hn2 := HN1.out.trans (Nw.of ((Ext.refl w1).alloc #[.int .i64 0, .bool false, .int .i64 0, .string ByteArray.empty, .slice none 0 0, .slice none 0 0] 34))
  have HN2 := Lib.hid hn2
  clear hn2 HN1
  refine (put_nil2 _).mono ?_
  rintro e w3 ⟨rfl, hn3⟩
  have HN3 := Lib.hid (HN2.out.trans hn3)
  clear hn3 HN2
  go_wp2_with fail
  refine (back_nil _ _).mono ?_
  rintro e w4 ⟨rfl, hx4⟩
  have hn4 := HN3.out.trans (Nw.of hx4)
  have h4 := HZ.out.nw hn4
  have hbk : Calls Tryz.prog 20 #[.pointer (some ⟨w.heap.size, 0, none⟩), .int .i64 (-1)] w4 fun e w' => e = .returned (.int .i64 17) ∧ Ext w4 w' := back_no h4 (.inl (by decide))
  have HN4 := Lib.hid hn4
  have HBK := Lib.hid hbk
  clear hx4 hn4 h4 hbk HN3
  go_wp2_with fail
  refine HBK.out.mono ?_
  rintro e w5 ⟨rfl, hx5⟩
  have hn5 := HN4.out.trans (Nw.of hx5)
  have h5 := HZ.out.nw hn5
  have hbk : Calls Tryz.prog 20 #[.pointer (some ⟨w.heap.size, 0, none⟩), .int .i64 1] w5 fun e w' => e = .returned (.int .i64 17) ∧ Ext w5 w' := back_no h5 (.inr (by decide))
  have HN5 := Lib.hid hn5
  have HBK2 := Lib.hid hbk
  clear hx5 hn5 h5 hbk HN4 HBK
  go_wp2_with fail
  refine HBK2.out.mono ?_
  rintro e w6 ⟨rfl, hx6⟩
  have hn6 := HN5.out.trans (Nw.of hx6)
  have HN6 := Lib.hid hn6
  clear hx6 hn6 HN5 HBK2
  go_wp2_with fail
  refine (delete_ov_nil _ _).mono ?_
  rintro e w7 ⟨rfl, hn7⟩
  have HN7 := Lib.hid (HN6.out.trans hn7)
  clear hn7 HN6
  go_wp2_with fail
  refine (mark_nil _).mono ?_
  rintro e w8 ⟨rfl, hx8⟩
  have HN8 := Lib.hid (HN7.out.trans (Nw.of hx8))
  clear hx8 HN7
  go_wp2_with fail
  refine (prefix_nil _ _).mono ?_
  rintro e w9 ⟨rfl, hn9⟩
  have HN9 := Lib.hid (HN8.out.trans hn9)
  clear hn9 HN8
  go_wp2_with fail
  refine (commit_nil2 _).mono ?_
  rintro e w10 ⟨rfl, hn10⟩
  have HN10 := Lib.hid (HN9.out.trans hn10)
  clear hn10 HN9
  go_wp2_with fail
  refine (len_nil _).mono ?_
  rintro e w11 ⟨rfl, hn11⟩
  have hn := HN10.out.trans hn11
  have h11 := HZ.out.nw hn
  have hbk : Calls Tryz.prog 20 #[.pointer (some ⟨w.heap.size, 0, none⟩), .int .i64 0] w11 (BackPost (fun _ => False) w.heap.size (od0 none) 0 w11) := back_ov h11 (Nat.zero_le _) (m := 0) (Nat.zero_le _)
  have HN11 := Lib.hid hn
  have HBK3 := Lib.hid hbk
  clear hn11 hn h11 hbk HN10
  go_wp2_with fail
  refine HBK3.out.mono ?_
  rintro e w12 ⟨rfl, hto⟩
  have hn0 := HN0.out.trans HN11.out
  obtain ⟨hn12, -⟩ := hto.since hn0 fun b hb => by
    rcases hb with rfl | hb | hb
    · exact Nat.le_refl _
    · cases hb
    · cases hb
  have hcm : Calls Tryz.prog 12 #[.pointer (some ⟨w.heap.size, 0, none⟩)] w12 fun e w' => e = .returned (.agg #[.pointer none]) ∧ Nw w12 w' := commit_none hto.at_ rfl
  have HN12 := Lib.hid hn12
  have HCM := Lib.hid hcm
  clear hto hn0 hn12 hcm HN11 HN0 HZ HBK3
  go_wp2_with fail
  refine HCM.out.mono ?_
  rintro e w13 ⟨rfl, hn13⟩
  have HN13 := Lib.hid (HN12.out.trans hn13)
  clear hn13 HN12 HCM
  go_wp2_with fail
  refine (len_nil _).mono ?_
  rintro e w14 ⟨rfl, hn14⟩
  have HN14 := Lib.hid (HN13.out.trans hn14)
  clear hn14 HN13
  go_wp2_with fail
  refine (known12 (HL.out.nw HN14.out)).mono ?_
  rintro e w15 ⟨rfl, hn15⟩
  have HN15 := Lib.hid (HN14.out.trans hn15)
  clear hn15 HN14 HL
  go_wp2_with fail
  go_ret
  exact ⟨rfl, HN15.out⟩
end Go.Proofs.YtechahocffcbpaaGreatDoor
