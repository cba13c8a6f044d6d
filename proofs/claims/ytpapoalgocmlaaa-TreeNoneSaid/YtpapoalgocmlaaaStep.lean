/- append onto an owned row as a step of a region that draws its order. No program in sight. -/
import Derived.Test.YtpapoalgocmlaaaRows2
import Derived.Deep.RegionLaw
namespace Go.Proofs.Ytpapoalgocmlaaa
open Go.RowKit
section
variable {P : Program} (w : World)
theorem step_append_x {ops : Array Oper} {o : Oper} {a : Act} {K : Act → World → Prop} {Q : Exit → Act → World → Prop} {E : Prop} (hgd : o.guard = none) (s' x : Operand) (t : TypeId)
    (ho : o.op = .call { callee := .builtin .append, args := #[s', x], argTypes := #[t, t] })
    (base : Nat) (e : TypeId) (i : TypeInfo) (z : Value) (size bytes : Nat) (ht : P.underlying t = some (.slice e)) (hi : P.info? e = some i) (hz : i.zero = some z)
    (hsize : i.size = size) (hby : i.bytes = bytes) (hzs : z.cells.size = size) (hsz : 0 < size)
    (s : Sl) (n : Nat) (xs : List Value) (hs : a.eval s' = .slice s.a n s.c) (hown : w.ownsRow base e size (.slice s.a n s.c) n xs)
    (F : Nat → Prop) (sx : Sl) (m : Nat) (news : List Value) (hx : a.eval x = .slice sx.a m sx.c) (hsrc : Rd w F size sx m news) (h1 : ∀ u ∈ news, u.oneCell' = true)
    (h63 : n + m ≤ maxLen) (hbytes : (n + m) * bytes ≤ 140737488355328) (hbase : base ≤ w.heap.size)
    (h : ∀ (s' : Sl) (w' : World), w'.ownsRow base e size (.slice s'.a (n + m) s'.c) (n + m) (xs ++ news) → Wr w w' s.row → (s'.a = s.a ∨ s'.a = some ⟨w.heap.size, 0, none⟩ ∧ Wr w w' none) → K (a.put o.dst (.slice s'.a (n + m) s'.c)) w') :
    if Region.wanted o (yielded ops a.tmps) = true then Oper.wp P o a w K Q else E := by
  have hw : Region.wanted o (yielded ops a.tmps) = true := by simp [Region.wanted, hgd]
  rw [if_pos hw]
  exact wp_append_x w s' x t ho base e i z size bytes ht hi hz hsize hby hzs hsz s n xs hs hown F sx m news hx hsrc h1 h63 hbytes hbase h
/-- The same, the operation's run equation handed in by an existential. -/
theorem Rd.block {w : World} {g : Nat} {t : TypeId} {cs : List Value} {size n : Nat} (hb : Blk w g t cs.toArray) (hm : n ≤ maxLen) (hl : cs.length = n * size) : Rd w (fun b => b = g) size ⟨some ⟨g, 0, none⟩, n⟩ n cs :=
  ⟨g, 0, .some _ _ _ _ (Nat.le_refl _) hm rfl, hl, fun j u hj => by rw [Nat.zero_add, hb.cell]; simpa using hj⟩
end
end Go.Proofs.Ytpapoalgocmlaaa
