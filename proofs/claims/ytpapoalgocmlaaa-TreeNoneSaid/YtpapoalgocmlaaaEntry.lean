/- (*Node).Entries, (*Node).Entry; tree.place. -/
import Derived.Test.YtpapoalgocmlaaaCopies
namespace Go.Proofs.Ytpapoalgocmlaaa
open Go.RowKit
set_option linter.unusedVariables false

/-- An entry as it stands in a slot. -/
abbrev aggE (k : ByteArray) (v : Val) (sl so : Sl) : Value := .agg #[.string k, .int .i64 v.kind, .bool v.b, .int .i64 v.i, .string v.t, .slice sl.a v.l.length sl.c, .slice so.a v.ok.length so.c]

/-- What Entries hands back. -/
def EntriesPost (es : List Ent) (w : World) (e : Ending) (w' : World) : Prop :=
  ∃ (s' : Sl) (xs' : List LE), e = .returned (.slice s'.a xs'.length s'.c) ∧ xs'.map LE.ent = es ∧ OE w' w.heap.size s' xs' ∧ Ext w w'

theorem entries_nil (w : World) : Calls Try.prog 117 #[.pointer none] w fun e w' => e = .returned (.slice none 0 0) ∧ w = w' := by
  go_enter Try.func117, Try.ntmps117
  go_wp2
  go_ret
  exact ⟨rfl, rfl⟩
theorem entries_inner {w : World} {F : Nat → Prop} {h : Nat} {t : PT (h + 1)} (hn : IsN w F (h + 1) t) : Calls Try.prog 117 #[ptr (h + 1) t] w fun e w' => e = .returned (.slice none 0 0) ∧ w = w' := by
  obtain ⟨-, s, hb, -⟩ := hn
  have h0 : w.cell? ⟨addr (h + 1) t, 0, none⟩ = some (.slice none 0 0) := hb.c7.1
  clear hb
  go_enter Try.func117, Try.ntmps117
  go_wp2
  go_ret
  exact ⟨rfl, rfl⟩
theorem entries_any {w : World} {t : PT 0} (hn : IsN w (Lt w.heap.size) 0 t) : Calls Try.prog 117 #[ptr 0 t] w (EntriesPost (ents 0 t) w) := by
  obtain ⟨-, s, xs, hb, hs, hxs⟩ := hn
  have h0 : w.cell? ⟨addr 0 t, 0, none⟩ = some (.slice s.a xs.length s.c) := hb.c7.1
  have hc := copies_any hs
  have HX := Lib.hid hxs
  clear hb hxs
  by_cases hl : xs.length = 0
  · have hl' : xs = [] := List.eq_nil_of_length_eq_zero hl
    subst hl'
    clear hc
    go_enter Try.func117, Try.ntmps117
    go_wp2_with fail
    go_ret
    exact ⟨Sl.none, [], rfl, HX.out, OE.nil _ _, Ext.refl _⟩
  · have hl' : ((xs.length : Int) == 0) = false := beq_eq_false_iff_ne.2 (by omega)
    clear hl
    go_enter Try.func117, Try.ntmps117
    go_wp2_with fail
    refine hc.mono ?_
    rintro e w' ⟨s', xs', rfl, h1, h2, h3⟩
    have H1 := Lib.hid h1
    clear h1
    go_wp2_with fail
    go_ret
    exact ⟨s', xs', rfl, H1.out.trans HX.out, h2, h3⟩

/-- The zero value. -/
def zeroV : Val := .mk 0 false 0 ByteArray.empty [] [] []
/-- What Entry hands back of an entry that is there. -/
def EntryPost (k : ByteArray) (v : Val) (w : World) (e : Ending) (w' : World) : Prop :=
  ∃ sl so, e = .returned (.tuple #[aggE k v sl so, .bool true]) ∧ Ext w w' ∧ RV w' (In w.heap.size w'.heap.size) v sl so

set_option maxRecDepth 100000 in
set_option maxHeartbeats 400000 in
theorem entry_any {w : World} {t : PT 0} (hn : IsN w (Lt w.heap.size) 0 t) {i : Nat} {k : ByteArray} {v : Val} (hi : (ents 0 t)[i]? = some (k, v)) :
    Calls Try.prog 145 #[ptr 0 t, .int .i64 i] w (EntryPost k v w) := by
  obtain ⟨-, s, xs, hb, hs, hxs⟩ := hn
  have h0 : w.cell? ⟨addr 0 t, 0, none⟩ = some (.slice s.a xs.length s.c) := hb.c7.1
  have hbl : addr 0 t < w.heap.size := hb.lt
  obtain ⟨x, hx, rfl, rfl⟩ : ∃ x, xs[i]? = some x ∧ x.k = k ∧ x.v = v := by
    rw [show ents 0 t = xs.map LE.ent from hxs.symm, List.getElem?_map] at hi
    cases hx : xs[i]? with
    | none => rw [hx] at hi; cases hi
    | some x => rw [hx] at hi; simp [LE.ent] at hi; exact ⟨x, rfl, hi.1, hi.2⟩
  obtain ⟨b, o, ha, hbo, hlc, hcm, hk0, hv, hrv, hkm⟩ := hs.at hx
  obtain ⟨v0, v1, v2, v3, v4, v5⟩ := hv.m
  have hil : i < xs.length := (List.getElem?_eq_some_iff.1 hx).1
  have hfew := hs.few
  have hil' : (i : Int) < (xs.length : Int) := by omega
  have hib : decide ((xs.length : Int) ≤ (i : Int)) = false := by simp; omega
  have hin : decide ((i : Int) < 0) = false := by simp
  have hic : ∀ W, Ext w W → Calls Try.prog 127 #[aggV x.v x.sl x.so] W (CopyPost x.v W) := fun W hW =>
    copy_any _ x.v (Nat.le_refl _) W _ _ ((hrv.agree (hW.agree fun _ h => h)).mono fun i hi => Nat.lt_of_lt_of_le hi hW.size)
  rw [ha] at h0
  have hbo' : b < w.heap.size := hbo
  clear hb hxs hs hi hv hrv hkm ha hx hbo
  go_enter Try.func145, Try.ntmps145
  go_wp2_with fail
  go_region_held3 (fun w' => w'.cell? ⟨w.heap.size + 1, 0, none⟩ = some (.string x.k) ∧ w'.cell? ⟨w.heap.size + 1, 1, none⟩ = some (.int .i64 x.v.kind) ∧ w'.cell? ⟨w.heap.size + 1, 2, none⟩ = some (.bool x.v.b) ∧ w'.cell? ⟨w.heap.size + 1, 3, none⟩ = some (.int .i64 x.v.i) ∧ w'.cell? ⟨w.heap.size + 1, 4, none⟩ = some (.string x.v.t) ∧ w'.cell? ⟨w.heap.size + 1, 5, none⟩ = some (.slice x.sl.a x.v.l.length x.sl.c) ∧ w'.cell? ⟨w.heap.size + 1, 6, none⟩ = some (.slice x.so.a x.v.ok.length x.so.c)) (go_keep)
    ((go_at_call 127; refine (hic _ ((((Ext.refl w).alloc _ _).alloc _ _).drew)).mono ?_; rintro e w1 ⟨sl2, so2, rfl, he1, hr1⟩; have ho1 := he1.olds))
  have hX : Ext w w1 := ((((Ext.refl w).alloc _ _).alloc _ _).drew).trans he1
  go_wp2_with fail
  have hb1 : Blk w1 w.heap.size 56 #[.string ByteArray.empty, .int .i64 0, .bool false, .int .i64 0, .string ByteArray.empty, .slice none 0 0, .slice none 0 0] := (he1.heap (by rw [World.size_drew, World.size_alloc, World.size_alloc]; omega)).trans (heap_alloc2_old w _ _)
  obtain ⟨q0, q1, q2, q3, q4, q5, q6⟩ := hb1.c7
  refine bodyPost_ret (v := .tuple #[aggE x.k x.v sl2 so2, .bool true]) (by simp [results, Try.results145, go_sem, q0, q1, q2, q3, q4, q5, q6]) rfl ?_
  have hE : Ext w (putM w1 w.heap.size 0 x.k x.v sl2 so2) := hX.putM (Nat.le_refl _) 0 x.k x.v sl2 so2
  refine ⟨sl2, so2, rfl, hE, ?_⟩
  show RV (putM w1 w.heap.size 0 x.k x.v sl2 so2) (In w.heap.size (putM w1 w.heap.size 0 x.k x.v sl2 so2).heap.size) _ _ _
  rw [putM_size]
  have hr2 : RV w1 (In (w.heap.size + 1) w1.heap.size) x.v sl2 so2 := hr1.mono fun i hi => ⟨by have := hi.1; simp at this; omega, hi.2⟩
  exact (hr2.agree (putM_agree _ _ _ _ _ _ _ (by omega))).mono fun i hi => ⟨by omega, hi.2⟩
theorem entry_none {w : World} {t : PT 0} (hn : IsN w (Lt w.heap.size) 0 t) {i : Int} (hi : i < 0 ∨ (ents 0 t).length ≤ i) :
    Calls Try.prog 145 #[ptr 0 t, .int .i64 i] w fun e w' => e = .returned (.tuple #[aggE ByteArray.empty zeroV Sl.none Sl.none, .bool false]) ∧ Ext w w' := by
  obtain ⟨-, s, xs, hb, hs, hxs⟩ := hn
  have h0 : w.cell? ⟨addr 0 t, 0, none⟩ = some (.slice s.a xs.length s.c) := hb.c7.1
  have hbl : addr 0 t < w.heap.size := hb.lt
  have hl : (ents 0 t).length = xs.length := by rw [show ents 0 t = xs.map LE.ent from hxs.symm, List.length_map]
  rw [hl] at hi
  clear hb hs hxs hl
  by_cases hneg : i < 0
  · have hin : decide (i < 0) = true := by simpa using hneg
    clear hi hneg
    go_enter Try.func145, Try.ntmps145
    go_wp2_with fail
    refine bodyPost_ret (v := .tuple #[aggE ByteArray.empty zeroV Sl.none Sl.none, .bool false]) (by simp [results, Try.results145, go_sem]; exact ⟨rfl, rfl, rfl, rfl, rfl, rfl, rfl⟩) rfl ⟨rfl, (Ext.refl w).alloc _ _⟩
  · have hge : decide ((xs.length : Int) ≤ i) = true := by simp; omega
    have hin : decide (i < 0) = false := by simpa using hneg
    clear hi hneg
    go_enter Try.func145, Try.ntmps145
    go_wp2_with fail
    refine bodyPost_ret (v := .tuple #[aggE ByteArray.empty zeroV Sl.none Sl.none, .bool false]) (by simp [results, Try.results145, go_sem]; exact ⟨rfl, rfl, rfl, rfl, rfl, rfl, rfl⟩) rfl ⟨rfl, (Ext.refl w).alloc _ _⟩
end Go.Proofs.Ytpapoalgocmlaaa
