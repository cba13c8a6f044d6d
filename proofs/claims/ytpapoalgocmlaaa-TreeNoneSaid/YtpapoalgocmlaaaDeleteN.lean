/- slices.Delete of one element out of an owned row (elements of 1 cells). Written by program for two element types. -/
import Derived.Test.YtpapoalgocmlaaaPlace
import Derived.Deep.RegionLaw
import Derived.Lib.SliceRun
namespace Go.Proofs.Ytpapoalgocmlaaa
open Go.RowKit
set_option linter.unusedVariables false
set_option linter.unusedSimpArgs false

section
variable {P : Program} (w : World)
theorem stepN_append_run {ops : Array Oper} {o : Oper} {a : Act} {K : Act → World → Prop} {Q : Exit → Act → World → Prop} {E : Prop} (hgd : o.guard = none) (d s : Operand) (t t' : TypeId)
    (ho : o.op = .call { callee := .builtin .append, args := #[d, s], argTypes := #[t, t'] }) (v u : Value) (hd : a.eval d = v) (hs : a.eval s = u) {v' : Value} {w' : World}
    (hr : (Builtin.append_ #[t, t'] o.type #[v, u]).run P w = .ok v' w') (h : K (a.put o.dst v') w') :
    if Region.wanted o (yielded ops a.tmps) = true then Oper.wp P o a w K Q else E := by
  have hw : Region.wanted o (yielded ops a.tmps) = true := by simp [Region.wanted, hgd]
  rw [if_pos hw]
  unfold Oper.wp execOp
  simp only [ho, resolve, invoke, builtin, Sem.run_bind, Sem.run_pure, Result.andThen_ok, List.map_toArray, List.map_cons, List.map_nil, hd, hs, hr]
  exact h
end
/-- What slices.Delete hands back. -/
def DelPostN (base : Nat) (s : Sl) (n i : Nat) (xs : List Value) (w : World) (e : Ending) (w' : World) : Prop :=
  e = .returned (.slice s.a (n - 1) s.c) ∧ w'.ownsRow base 28 1 (.slice s.a (n - 1) s.c) (n - 1) (xs.take (i * 1) ++ xs.drop ((i + 1) * 1)) ∧ Wr w w' s.row

theorem zeroN (w : World) : (zeroValue 28).run Try.prog w = .ok (.pointer none) w := by kernel_rfl
set_option maxRecDepth 100000 in
set_option maxHeartbeats 1000000 in
theorem delN_any {w : World} {base n i : Nat} {s : Sl} {xs : List Value} (hown : w.ownsRow base 28 1 (.slice s.a n s.c) n xs) (hn : n ≤ 1000) (hin : i < n) (h1 : ∀ u ∈ xs, u.oneCell' = true) :
    Calls Try.prog 188 #[.slice s.a n s.c, .int .i64 i, .int .i64 ((i : Int) + 1)] w (DelPostN base s n i xs w) := by
  obtain ⟨i0, hi, hz0, hz1, hz2⟩ := info_parts Try.infoPNode
  rcases hown.2 with ⟨hs, h0⟩ | ⟨g, cap, cur, hs, hbg, hg, hnc, hcm, hcs, htake⟩
  · omega
  simp only [Value.slice.injEq] at hs
  obtain ⟨ha, -, hc⟩ := hs
  have hs' : s = ⟨some ⟨g, 0, none⟩, cap⟩ := by cases s; simp_all
  have hxl := hown.1
  subst hs'
  clear hown ha hc
  have hic : i ≤ cap := by omega
  have hin' : (i : Int) < (n : Int) := by omega
  have hin1 : (i : Int) + 1 ≤ (n : Int) := by omega
  have hi0 : (0 : Int) ≤ (i : Int) := by omega
  have hib : (0 : Int) ≤ (i : Int) + 1 := by omega
  have hii : (i : Int) ≤ (i : Int) + 1 := by omega
  have hne : ((i : Int) == (i : Int) + 1) = false := beq_eq_false_iff_ne.2 (by omega)
  have hcm' : (cap : Int) ≤ 9223372036854775807 := by unfold maxLen at hcm; omega
  have hncI : (n : Int) ≤ (cap : Int) := by omega
  have htn : ((i : Int) + 1).toNat = i + 1 := by omega
  obtain ⟨news, hnews⟩ : ∃ news, news = xs.drop ((i + 1) * 1) := ⟨_, rfl⟩
  have hnl : news.length = (n - (i + 1)) * 1 := by rw [hnews, List.length_drop, hxl, ← Nat.sub_mul]
  have hn1 : ∀ u ∈ news, u.oneCell' = true := fun u hu => h1 u (List.mem_of_mem_drop (hnews ▸ hu))
  obtain ⟨A, hA, hsrc⟩ : ∃ A : Addr, (if cap = i + 1 then some (⟨g, 0, none⟩ : Addr) else some ⟨g, i + 1, none⟩) = some A ∧ (∀ j u, news[j]? = some u → w.drew.cell? (A.add j) = some u) := by
    by_cases h : cap = i + 1
    · refine ⟨⟨g, 0, none⟩, by simp [h], fun t u hu => ?_⟩
      have h0 : news.length = 0 := by rw [hnl, show n - (i + 1) = 0 from by omega, Nat.zero_mul]
      rw [List.length_eq_zero_iff.1 h0] at hu
      simp at hu
    · refine ⟨⟨g, i + 1, none⟩, by simp [h], fun j u hu => ?_⟩
      rw [add_at, World.cell?_drew, cell_of_row w g _ cur 28 (0, 0) hg]
      rw [hnews, List.getElem?_drop, ← htake, List.getElem?_take] at hu
      split at hu
      · simpa [Nat.add_comm, Nat.add_left_comm, Nat.add_assoc, Nat.mul_comm] using hu
      · cases hu
  obtain ⟨A1, hA1⟩ : ∃ A1, A1 = (cur.toList.take (i * 1) ++ news ++ cur.toList.drop (i * 1 + news.length)).toArray := ⟨_, rfl⟩
  have hfit : i * 1 + news.length ≤ cur.size := by rw [hnl, hcs]; omega
  have hs1 : A1.size = cur.size := by rw [hA1]; simp; omega
  obtain ⟨W1, hW1⟩ : ∃ W1, W1 = w.drew.setRow g A1 := ⟨_, rfl⟩
  have hap : ∀ ty, (Builtin.append_ #[155, 155] ty #[.slice (some ⟨g, 0, none⟩) i cap, .slice (some A) (n - (i + 1)) (cap - (i + 1))]).run Try.prog w.drew = .ok (.slice (some ⟨g, 0, none⟩) (n - 1) cap) W1 := fun ty => by
    have h := run_append_room (P := Try.prog) w.drew 155 ty 28 i0 Try.underlying155 hi g i cap cur hg A (n - (i + 1)) (cap - (i + 1)) news (by rw [hz1]; exact hnl) hsrc hn1 (by omega) (by rw [hz1]; exact hfit)
    rw [hz1] at h
    rw [hW1, hA1, h, show i + (n - (i + 1)) = n - 1 from by omega]
  have hg1 : W1.heap[g]? = some (.cells A1 28 (0, 0)) := by rw [hW1]; exact setRow_heap w.drew g cur A1 28 (0, 0) hg
  obtain ⟨Z, hZ⟩ : ∃ Z, Z = ((.pointer none) : Value) := ⟨_, rfl⟩
  have hzv : ∀ w, (zeroValue 28).run Try.prog w = .ok Z w := fun w => by rw [hZ]; exact zeroN w
  obtain ⟨zs, hzs⟩ : ∃ zs, zs = (Builtin.zeroCells Z.cells 1).toList := ⟨_, rfl⟩
  have hzl : zs.length = 1 := by rw [hzs, Array.length_toList, size_zeroCells, hZ]; rfl
  have hz1c : ∀ u ∈ zs, u.oneCell' = true := by
    have : zs.all (·.oneCell') = true := by rw [hzs, hZ]; kernel_rfl
    exact fun u hu => List.all_eq_true.1 this u hu
  obtain ⟨A2, hA2⟩ : ∃ A2, A2 = (A1.toList.take (n - 1) ++ zs ++ A1.toList.drop (n - 1 + zs.length)).toArray := ⟨_, rfl⟩
  obtain ⟨W2, hW2⟩ : ∃ W2, W2 = W1.setRow g A2 := ⟨_, rfl⟩
  have hst := run_storeCells_at Try.prog g (n - 1) 28 zs 0 A1 W1 hg1 (by rw [hzl, hs1, hcs]; omega) hz1c
  have hcl : ∀ ty c, (Builtin.clear_ #[155] ty #[.slice (some ⟨g, n - 1, none⟩) 1 c]).run Try.prog W1 = .ok (.tuple #[]) W2 := fun ty c => by
    simp only [Nat.add_zero] at hst
    rw [← hA2, ← hW2] at hst
    rw [hzs] at hst
    simp [Builtin.clear_, run_underlying Try.underlying155, hzv, hst]
  have hg2 : W2.heap[g]? = some (.cells A2 28 (0, 0)) := by rw [hW2]; exact setRow_heap W1 g A1 A2 28 (0, 0) hg1
  have hwr : Wr w W2 (some g) := by
    rw [hW2, hW1]
    exact ((Wr.refl w (some g)).drew.trans (Wr.setRow w.drew A1) (fun i hi => .inl hi)).trans (Wr.setRow (w.drew.setRow g A1) A2) (fun i hi => .inl hi)
  have hfin : W2.ownsRow base 28 1 (.slice (some ⟨g, 0, none⟩) (n - 1) cap) (n - 1) (xs.take (i * 1) ++ xs.drop ((i + 1) * 1)) := by
    have ht : xs.take (i * 1) = cur.toList.take (i * 1) := by rw [← htake, List.take_take, Nat.min_eq_left (by omega)]
    refine ⟨by simp [hxl]; omega, .inr ⟨g, cap, A2, rfl, hbg, hg2, by omega, hcm, by rw [hA2]; simp; omega, ?_⟩⟩
    have hl2 : (cur.toList.take (i * 1) ++ news).length = (n - 1) * 1 := by rw [List.length_append, List.length_take, Array.length_toList, hnl]; omega
    rw [← hnews, ht, hA2]
    simp only [List.toList_toArray, List.append_assoc]
    rw [List.take_append_of_le_length (by rw [List.length_take, Array.length_toList]; omega), List.take_take, Nat.min_eq_left (by omega), hA1]
    simp only [List.toList_toArray]
    rw [List.take_append_of_le_length (by omega), List.take_of_length_le (by omega)]
  have HF := Lib.hid hfin
  have HW := Lib.hid hwr
  have HA := Lib.hid hA
  have hnm : ((n - 1 : Nat) : Int) < (n : Int) := by omega
  have hnm2 : ¬ cap = n - 1 := by omega
  have hnm3 : n - (n - 1) = 1 := by omega
  have hnm4 : ((n - 1 : Nat) : Int) ≤ (n : Int) := by omega
  clear hfin hwr hzv hZ hg2 hg1 hst hs1 hW2 hW1 hA2 hA1 hsrc hnl hn1 hnews hfit hg hcs htake h1 hxl hzl hz1c hzs
  go_enter Try.func188, Try.ntmps188
  go_wp2_with fail
  go_region_law (refine stepN_append_run _ rfl _ _ 155 155 rfl _ _ (by simp [Act.eval, Act.put]) (by simp [Act.eval, Act.put]) (hap _) ?_)
  go_wp2_with fail
  go_ret
  exact ⟨rfl, HF.out, HW.out⟩
end Go.Proofs.Ytpapoalgocmlaaa
