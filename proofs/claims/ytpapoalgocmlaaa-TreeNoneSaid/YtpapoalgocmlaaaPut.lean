/- (Tree).Put: the tree in which a key has a value. -/
import Derived.Test.YtpapoalgocmlaaaWith2
namespace Go.Proofs.Ytpapoalgocmlaaa
open Go.RowKit
set_option linter.unusedVariables false
set_option linter.unusedSimpArgs false

theorem with_any {k : ByteArray} {v : Val} {sl so : Sl} (hkm : k.size ≤ maxLen) : ∀ (h : Nat) (w : World) (F : Nat → Prop) (t : PT h), (∀ b, F b → b < w.heap.size) → IsN w F h t → OkT h t → Sorted (ents h t) → (ents h t).length ≤ 1000000 → RV w (Lt w.heap.size) v sl so →
    Calls Try.prog 91 #[ptr h t, aggE k v sl so] w (WithPost F h t k v w)
  | 0, w, F, t, hF, hn, ok, hs, hc, hv => with_zero hF hn ok hs hv hkm
  | h + 1, w, F, t, hF, hn, ok, hs, hc, hv => with_succ hkm (with_any hkm h) hF hn ok hs hc hv

/-- A tree: none, or its root. -/
abbrev RT := Option (Σ h, PT h)
def rootV : RT → Value
  | none => .pointer none
  | some ⟨h, t⟩ => ptr h t
abbrev treeV (T : RT) : Value := .agg #[rootV T]
def entsT : RT → List Ent
  | none => []
  | some ⟨h, t⟩ => ents h t
/-- A tree that is sound. -/
def OkR : RT → Prop
  | none => True
  | some ⟨h, t⟩ => OkT h t ∧ 1 ≤ size h t ∧ Sorted (ents h t)
/-- A tree in memory. -/
def IsT (w : World) (F : Nat → Prop) : RT → Prop
  | none => True
  | some ⟨h, t⟩ => IsN w F h t
theorem IsT.agree {w w' : World} {F : Nat → Prop} {T : RT} (h : IsT w F T) (ha : Agree F w w') : IsT w' F T := by
  match T, h with
  | none, _ => trivial
  | some ⟨n, t⟩, h => exact IsN.agree ha h
theorem IsT.mono {w : World} {F G : Nat → Prop} {T : RT} (h : IsT w F T) (hG : ∀ i, F i → G i) : IsT w G T := by
  match T, h with
  | none, _ => trivial
  | some ⟨n, t⟩, h => exact IsN.mono hG h
theorem OkR.sorted {T : RT} (h : OkR T) : Sorted (entsT T) := by
  match T, h with
  | none, _ => exact List.Pairwise.nil
  | some ⟨n, t⟩, h => exact h.2.2

inductive WithRT (B : Nat) (k : ByteArray) (v : Val) : RT → (h : Nat) → List (PT h) → Prop
  | none (u : PT 0) (h : u.2 = [(k, v)]) (hb : B ≤ u.1) : WithRT B k v none 0 [u]
  | some {h : Nat} {t : PT h} {ts : List (PT h)} (hw : WithR B k v h t ts) : WithRT B k v (some ⟨h, t⟩) h ts
theorem WithRT.mono {A B : Nat} (hAB : A ≤ B) {k : ByteArray} {v : Val} {T : RT} {h : Nat} {ts : List (PT h)} (hw : WithRT B k v T h ts) : WithRT A k v T h ts := by
  cases hw with
  | none u hu hb => exact .none u hu (Nat.le_trans hAB hb)
  | some hw => exact .some (hw.mono hAB)
theorem WithRT.height {B : Nat} {k : ByteArray} {v : Val} {T : RT} {h : Nat} {ts : List (PT h)} (hw : WithRT B k v T h ts) (ok : OkR T) : h ≤ (entsT T).length := by
  cases hw with
  | none u hu hb => exact Nat.zero_le _
  | some hw => exact Nat.le_of_lt (height_lt _ _ ok.1 ok.2.1)
inductive PutR (B : Nat) (k : ByteArray) (v : Val) : RT → RT → Prop
  | one {T : RT} {h : Nat} {a : PT h} (hw : WithRT B k v T h [a]) : PutR B k v T (some ⟨h, a⟩)
  | two {T : RT} {h : Nat} {a b : PT h} {c : PT (h + 1)} (hw : WithRT B k v T h [a, b]) (hc : c.2 = [a, b]) (hb : B ≤ addr (h + 1) c) : PutR B k v T (some ⟨h + 1, c⟩)

theorem WithRT.ents {B : Nat} {k : ByteArray} {v : Val} {T : RT} {h : Nat} {ts : List (PT h)} (hw : WithRT B k v T h ts) (ok : OkR T) : ts.flatMap (Proofs.Ytpapoalgocmlaaa.ents h) = insE (entsT T) k v := by
  cases hw with
  | none u hu hb =>
    show u.2 ++ [] = _
    rw [hu]; rfl
  | some hw => exact hw.ents ok.1 ok.2.2
theorem WithRT.ok {B : Nat} {k : ByteArray} {v : Val} {T : RT} {h : Nat} {ts : List (PT h)} (hw : WithRT B k v T h ts) (ok : OkR T) : (∀ u ∈ ts, OkT h u ∧ 1 ≤ size h u) ∧ (2 ≤ ts.length → ∀ u ∈ ts, 4 ≤ size h u) := by
  cases hw with
  | none u hu hb =>
    refine ⟨fun x hx => ?_, fun h => by simp at h⟩
    obtain rfl : x = u := by simpa using hx
    exact ⟨show x.2.length ≤ 8 by rw [hu]; simp, show 1 ≤ x.2.length by rw [hu]; simp⟩
  | some hw => exact ⟨fun u hu => ⟨(hw.ok ok.1).1 u hu |>.1, ((hw.ok ok.1).1 u hu).2.1⟩, (hw.ok ok.1).2⟩
theorem PutR.ents {B : Nat} {k : ByteArray} {v : Val} {T T' : RT} (hp : PutR B k v T T') (ok : OkR T) : entsT T' = insE (entsT T) k v := by
  cases hp with
  | one hw => have := hw.ents ok; simpa [entsT] using this
  | two hw hc hb =>
    rename_i h a b c
    have := hw.ents ok
    rw [← this, ← hc]; rfl
theorem PutR.ok {B : Nat} {k : ByteArray} {v : Val} {T T' : RT} (hp : PutR B k v T T') (ok : OkR T) : OkR T' := by
  have hs : Sorted (entsT T') := by rw [hp.ents ok]; exact insE_sorted ok.sorted k v
  cases hp with
  | one hw => rename_i h a; exact ⟨((hw.ok ok).1 a (by simp)).1, ((hw.ok ok).1 a (by simp)).2, hs⟩
  | two hw hc hb =>
    rename_i h a b c
    have h1 := hw.ok ok
    refine ⟨⟨by rw [hc]; simp, by rw [hc]; simp, fun x hx => ?_⟩, show 1 ≤ c.2.length by rw [hc]; simp, hs⟩
    rw [hc] at hx
    exact ⟨(h1.1 x hx).1, h1.2 (by simp) x hx⟩

theorem Rd.of_blk {w : World} {g : Nat} {t : TypeId} {cs : List Value} (hb : Blk w g t cs.toArray) (hm : cs.length ≤ maxLen) : Rd w (fun b => b = g) 1 ⟨some ⟨g, 0, none⟩, cs.length⟩ cs.length cs :=
  ⟨g, 0, .some _ _ _ _ (Nat.le_refl _) hm rfl, (Nat.mul_one _).symm, fun j u hj => by rw [Nat.zero_add, hb.cell]; simpa using hj⟩
def WithPostT (F : Nat → Prop) (T : RT) (k : ByteArray) (v : Val) (w : World) (e : Ending) (w' : World) : Prop :=
  ∃ (h : Nat) (a : PT h) (r : Value) (rs : List (PT h)), e = .returned (.tuple #[ptr h a, r]) ∧ ((r = .pointer none ∧ rs = [a]) ∨ ∃ b, r = ptr h b ∧ rs = [a, b]) ∧ WithRT w.heap.size k v T h rs ∧ (∀ u ∈ rs, IsN w' (Up F w w') h u) ∧ Ext w w'
theorem withT_any {w : World} {F : Nat → Prop} {T : RT} (hF : ∀ b, F b → b < w.heap.size) (hT : IsT w F T) (ok : OkR T) (hc : (entsT T).length ≤ 1000000) {k : ByteArray} {v : Val} {sl so : Sl} (hkm : k.size ≤ maxLen) (hv : RV w (Lt w.heap.size) v sl so) :
    Calls Try.prog 91 #[rootV T, aggE k v sl so] w (WithPostT F T k v w) := by
  match T, hT, ok, hc with
  | none, _, _, _ =>
    refine (with_leaf (nv := .pointer none) (es := []) (fun W hW => (height_nil W)) (fun W hW => (entries_nil W).mono ?_) List.Pairwise.nil (by simp) hv hkm).mono ?_
    · rintro e w' ⟨rfl, rfl⟩
      exact ⟨Sl.none, [], rfl, rfl, OE.nil _ _, Ext.refl _⟩
    · rintro e w' ⟨ts, rfl, h1, h2, h3⟩
      obtain ⟨u, rfl, hu⟩ := one0 (h1.trans (show chunk (insE [] k v) = [[(k, v)]] from rfl))
      exact ⟨0, u, _, _, rfl, .inl ⟨rfl, rfl⟩, .none u hu (h2 u (by simp)).1, fun x hx => (h2 x hx).2.mono fun i hi => .inr hi, h3⟩
  | some ⟨h, t⟩, hT, ok, hc =>
    refine (with_any hkm h w F t hF hT ok.1 ok.2.2 hc hv).mono ?_
    intro e w' p
    obtain ⟨a, r, rs, rfl, h1, h2, h3, h4⟩ := p.apart
    exact ⟨h, a, r, rs, rfl, h1, .some h2, h3, h4⟩

def PutPost (F : Nat → Prop) (T : RT) (k : ByteArray) (v : Val) (w : World) (e : Ending) (w' : World) : Prop :=
  ∃ T', e = .returned (treeV T') ∧ PutR w.heap.size k v T T' ∧ IsT w' (Up F w w') T' ∧ Ext w w'

set_option maxRecDepth 100000 in
set_option maxHeartbeats 1000000 in
theorem put_any {w : World} {F : Nat → Prop} {T : RT} (hF : ∀ b, F b → b < w.heap.size) (hT : IsT w F T) (ok : OkR T) (hc : (entsT T).length ≤ 1000000) {k : ByteArray} {v : Val} {sl so : Sl} (hkm : k.size ≤ maxLen) (hv : RV w (Lt w.heap.size) v sl so) :
    Calls Try.prog 36 #[treeV T, .string k, aggV v sl so] w (PutPost F T k v w) := by
  have hcw : ∀ W, Ext w W → Calls Try.prog 91 #[rootV T, aggE k v sl so] W (WithPostT F T k v W) := fun W hW =>
    withT_any (fun b hb => Nat.lt_of_lt_of_le (hF b hb) hW.size) (hT.agree (hW.agree hF)) ok hc hkm ((hv.agree (hW.agree fun _ h => h)).mono fun i hi => Nat.lt_of_lt_of_le hi hW.size)
  have HW := Lib.hid hcw
  have HF := Lib.hid hF
  have HOK := Lib.hid ok
  clear hF hT ok hv hcw
  go_enter Try.func36, Try.ntmps36
  go_wp2_with fail
  have hx3 : Ext w (((w.alloc (.cells #[rootV T] 30)).alloc (.cells #[.int .i64 v.kind, .bool v.b, .int .i64 v.i, .string v.t, .slice sl.a v.l.length sl.c, .slice so.a v.ok.length so.c] 49)).alloc (.cells #[.pointer none] 30)) := (((Ext.refl w).alloc _ _).alloc _ _).alloc _ _
  have hb3 : Blk (((w.alloc (.cells #[rootV T] 30)).alloc (.cells #[.int .i64 v.kind, .bool v.b, .int .i64 v.i, .string v.t, .slice sl.a v.l.length sl.c, .slice so.a v.ok.length so.c] 49)).alloc (.cells #[.pointer none] 30)) (w.heap.size + 1 + 1) 30 #[.pointer none] := by
    have := Blk.new ((w.alloc (.cells #[rootV T] 30)).alloc (.cells #[.int .i64 v.kind, .bool v.b, .int .i64 v.i, .string v.t, .slice sl.a v.l.length sl.c, .slice so.a v.ok.length so.c] 49)) 30 #[.pointer none]
    simpa using this
  generalize hW3 : World.alloc _ _ = W3 at *
  have hz3 : W3.heap.size = w.heap.size + 1 + 1 + 1 := by rw [← hW3]; simp
  clear hW3
  refine (HW.out _ hx3).mono ?_
  rintro e w4 ⟨h, a, r, rs, rfl, hr, hwr, hwn, hx4⟩
  have hb4 := hb3.ext hx4
  have hX4 := hx3.trans hx4
  have q4 : w4.cell? ⟨w.heap.size + 1 + 1, 0, none⟩ = some (.pointer none) := hb4.cell 0
  have f4 := hb4.frozen 0
  have hl4 := hb4.lt
  have HWR := Lib.hid hwr
  have HWN := Lib.hid hwn
  have HX := Lib.hid hX4
  have HXX := Lib.hid hx4
  have HB4 := Lib.hid hb4
  have hnF : ∀ W', ¬ Up F W3 W' (w.heap.size + 1 + 1) := fun W' hf => by
    rcases hf with hf | hf
    · have := HF.out _ hf; omega
    · have := hf.1; omega
  have HNF := Lib.hid hnF
  have hwW : w.heap.size ≤ W3.heap.size := by omega
  clear hb3 hb4 hwr hwn hX4 hx3 hx4 hnF
  rcases hr with ⟨rfl, rfl⟩ | ⟨b, rfl, rfl⟩
  · go_wp2_with fail
    have q0 : (w4.setCell ⟨w.heap.size + 1 + 1, 0, none⟩ (ptr h a)).cell? ⟨w.heap.size + 1 + 1, 0, none⟩ = some (ptr h a) := World.cell?_setCell_same w4 _ _ q4
    refine bodyPost_ret (v := treeV (some ⟨h, a⟩)) (by simp [results, Try.results36, go_sem, q0]; rfl) rfl ?_
    refine ⟨some ⟨h, a⟩, rfl, .one ?_, ?_, HX.out.setCell (p := ⟨w.heap.size + 1 + 1, 0, none⟩) (by show w.heap.size ≤ w.heap.size + 1 + 1; omega) _⟩
    · exact HWR.out.mono hwW
    · show IsN _ _ h a
      refine ((HWN.out a (by simp)).agree (Agree.setCell w4 ⟨w.heap.size + 1 + 1, 0, none⟩ _ (HNF.out w4))).mono fun i hi => hi.elim .inl fun hi => .inr ⟨Nat.le_trans hwW hi.1, by rw [World.size_setCell]; exact hi.2⟩
  · have hE5 : Ext w4 (w4.alloc (.cells #[ptr h a, ptr h b] 28)) := (Ext.refl _).alloc _ _
    have hb5 : Blk (w4.alloc (.cells #[ptr h a, ptr h b] 28)) w4.heap.size 28 (ptrs h [a, b]).toArray := Blk.new w4 28 #[ptr h a, ptr h b]
    have hz5 : (w4.alloc (.cells #[ptr h a, ptr h b] 28)).heap.size = w4.heap.size + 1 := by simp
    go_wp2_with fail
    change Calls _ _ _ (w4.alloc (.cells #[ptr h a, ptr h b] 28)) _
    generalize w4.alloc (.cells #[ptr h a, ptr h b] 28) = W5 at *
    have he := HWR.out.ents HOK.out
    have hko := HWR.out.ok HOK.out
    have hps : ∀ x ∈ [a, b], 0 < (ents h x).length := fun x hx => ents_pos h x (hko.1 x hx).1 (hko.1 x hx).2
    have hso : Sorted ([a, b].flatMap (ents h)) := by rw [he]; exact insE_sorted HOK.out.sorted k v
    have hkids : Kids W5 (Up F W3 W5) h [a, b] := by
      refine ⟨fun b hb => hb.elim (fun h => Nat.lt_of_lt_of_le (HF.out b h) (by have := HX.out.size; omega)) fun h => h.2, fun x hx => ?_, rising_of hso hps, hps, fun x hx => by have := size_le8 (hko.1 x hx).1; omega, by
        have := insE_len (entsT T) k v
        unfold cnt; rw [he]; omega, by have := HWR.out.height HOK.out; omega⟩
      exact ((HWN.out x hx).agree (hE5.agree fun i hi => hi.elim (fun h => Nat.lt_of_lt_of_le (HF.out i h) HX.out.size) fun h => h.2)).mono fun i hi => hi.elim .inl fun hi => .inr ⟨hi.1, by omega⟩
    have hin := tinner_any (w := W5) (n := 2) (s := ⟨some ⟨w4.heap.size, 0, none⟩, 2⟩) ((Rd.of_blk hb5 (by simp [ptrs]; decide)).mono fun i hi => by subst hi; omega) rfl hkids (by simp) (by simp)
    have HE5 := Lib.hid hE5
    clear hE5 hb5 he hko hps hso hkids
    refine hin.mono ?_
    rintro e w6 ⟨c, rfl, hc2, hca, hcn, hx6⟩
    have HCN := Lib.hid hcn
    have q6 : w6.cell? ⟨w.heap.size + 1 + 1, 0, none⟩ = some (.pointer none) := ((HE5.out.trans hx6).cell hl4).trans q4
    have f6 : w6.frozen? ⟨w.heap.size + 1 + 1, 0, none⟩ = false := ((HE5.out.trans hx6).frozen hl4).trans f4
    have HX6 := Lib.hid hx6
    clear hin hcn q4 f4 hx6
    go_wp2_with fail
    have q0 : (w6.setCell ⟨w.heap.size + 1 + 1, 0, none⟩ (ptr (h + 1) c)).cell? ⟨w.heap.size + 1 + 1, 0, none⟩ = some (ptr (h + 1) c) := World.cell?_setCell_same w6 _ _ q6
    refine bodyPost_ret (v := treeV (some ⟨h + 1, c⟩)) (by simp [results, Try.results36, go_sem, q0]; rfl) rfl ?_
    have hw5 : w.heap.size ≤ W5.heap.size := by have := HX.out.size; omega
    refine ⟨some ⟨h + 1, c⟩, rfl, .two (HWR.out.mono hwW) hc2 (Nat.le_trans hw5 hca), ?_, ((HX.out.trans HE5.out).trans HX6.out).setCell (p := ⟨w.heap.size + 1 + 1, 0, none⟩) (by show w.heap.size ≤ w.heap.size + 1 + 1; omega) _⟩
    show IsN _ _ (h + 1) c
    refine (HCN.out.agree (Agree.setCell w6 ⟨w.heap.size + 1 + 1, 0, none⟩ _ ?_)).mono fun i hi => ?_
    · rintro (hf | hf)
      · exact HNF.out W5 hf
      · have : W5.heap.size ≤ w.heap.size + 1 + 1 := hf.1
        omega
    · rcases hi with (hi | hi) | hi
      · exact .inl hi
      · exact .inr ⟨Nat.le_trans hwW hi.1, by rw [World.size_setCell]; exact Nat.lt_of_lt_of_le hi.2 HX6.out.size⟩
      · exact .inr ⟨Nat.le_trans hw5 hi.1, by rw [World.size_setCell]; exact hi.2⟩
end Go.Proofs.Ytpapoalgocmlaaa
