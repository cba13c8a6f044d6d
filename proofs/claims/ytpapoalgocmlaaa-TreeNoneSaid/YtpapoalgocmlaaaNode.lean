/- Rows of cells, of entries, of pointers; nodes in memory; the small functions on a node. -/
import Derived.Test.YtpapoalgocmlaaaCopy
import Derived.Test.YtpapoalgocmlaaaRows2
import Derived.Test.YtpapoalgocmlaaaSearch
import Derived.Test.YtpapoalgocmlaaaPlain
namespace Go.Proofs.Ytpapoalgocmlaaa
open Go.RowKit

/-- An entry, and where its value's two slices lie. -/
structure LE where
  k : ByteArray
  v : Val
  sl : Sl
  so : Sl
def LE.ent (x : LE) : Ent := (x.k, x.v)
def LE.cells (x : LE) : List Value := [.string x.k, .int .i64 x.v.kind, .bool x.v.b, .int .i64 x.v.i, .string x.v.t, .slice x.sl.a x.v.l.length x.sl.c, .slice x.so.a x.v.ok.length x.so.c]
def flatE (xs : List LE) : List Value := xs.flatMap LE.cells
theorem flatE_nil : flatE [] = [] := rfl
theorem flatE_cons (x : LE) (xs : List LE) : flatE (x :: xs) = x.cells ++ flatE xs := by simp [flatE]
theorem flatE_app (xs ys : List LE) : flatE (xs ++ ys) = flatE xs ++ flatE ys := by simp [flatE]
theorem LE.len (x : LE) : x.cells.length = 7 := rfl
theorem flatE_len (xs : List LE) : (flatE xs).length = xs.length * 7 := by
  induction xs with
  | nil => rfl
  | cons x xs ih => rw [flatE_cons, List.length_append, ih, LE.len, List.length_cons]; omega
theorem flatE_at : ∀ {xs : List LE} {i : Nat} {x : LE}, xs[i]? = some x → ∀ c, c < 7 → (flatE xs)[i * 7 + c]? = x.cells[c]?
  | [], i, x, h, _, _ => by simp at h
  | y :: ys, 0, x, h, c, hc => by
    simp at h; subst h
    rw [flatE_cons, Nat.zero_mul, Nat.zero_add, List.getElem?_append_left (by rw [LE.len]; exact hc)]
  | y :: ys, i + 1, x, h, c, hc => by
    simp at h
    rw [flatE_cons, List.getElem?_append_right (by rw [LE.len]; omega), LE.len, show (i + 1) * 7 + c - 7 = i * 7 + c from by omega]
    exact flatE_at h c hc
theorem flatE_take (xs : List LE) (i : Nat) : (flatE xs).take (i * 7) = flatE (xs.take i) := by
  induction xs generalizing i with
  | nil => simp [flatE]
  | cons x xs ih =>
    cases i with
    | zero => simp [flatE]
    | succ i =>
      rw [List.take_succ_cons, flatE_cons, flatE_cons, List.take_append, LE.len, List.take_of_length_le (by rw [LE.len]; omega), show (i + 1) * 7 - 7 = i * 7 from by omega, ih]
theorem flatE_drop (xs : List LE) (i : Nat) : (flatE xs).drop (i * 7) = flatE (xs.drop i) := by
  induction xs generalizing i with
  | nil => simp [flatE]
  | cons x xs ih =>
    cases i with
    | zero => simp
    | succ i =>
      rw [List.drop_succ_cons, flatE_cons, List.drop_append, LE.len, List.drop_eq_nil_of_le (by rw [LE.len]; omega), show (i + 1) * 7 - 7 = i * 7 from by omega, ih, List.nil_append]

/-- What the entries' values lead to, in blocks of F. -/
def Vals (w : World) (F : Nat → Prop) (xs : List LE) : Prop := ∀ x ∈ xs, RV w F x.v x.sl x.so ∧ x.k.size ≤ maxLen
theorem Vals.agree {w w' : World} {F : Nat → Prop} {xs : List LE} (h : Vals w F xs) (ha : Agree F w w') : Vals w' F xs := fun x hx => ⟨(h x hx).1.agree ha, (h x hx).2⟩
theorem Vals.mono {w : World} {F G : Nat → Prop} {xs : List LE} (h : Vals w F xs) (hG : ∀ i, F i → G i) : Vals w G xs := fun x hx => ⟨(h x hx).1.mono hG, (h x hx).2⟩
/-- A slice of entries. -/
structure ES (w : World) (F : Nat → Prop) (s : Sl) (xs : List LE) : Prop where
  rd : Rd w F 7 s xs.length (flatE xs)
  vals : Vals w F xs
  few : xs.length * 104 ≤ 140737488355328
theorem ES.agree {w w' : World} {F : Nat → Prop} {s : Sl} {xs : List LE} (h : ES w F s xs) (ha : Agree F w w') : ES w' F s xs := ⟨h.rd.agree ha, h.vals.agree ha, h.few⟩
theorem ES.mono {w : World} {F G : Nat → Prop} {s : Sl} {xs : List LE} (h : ES w F s xs) (hG : ∀ i, F i → G i) : ES w G s xs := ⟨h.rd.mono hG, h.vals.mono hG, h.few⟩
theorem ES.nil (w : World) (F : Nat → Prop) : ES w F Sl.none [] := ⟨Rd.nil _ _ _, fun x h => by simp at h, by simp⟩
/-- The cells of an entry that is there. -/
theorem ES.at {w : World} {F : Nat → Prop} {s : Sl} {xs : List LE} (h : ES w F s xs) {i : Nat} {x : LE} (hx : xs[i]? = some x) :
    ∃ b o, s.a = some ⟨b, o, none⟩ ∧ F b ∧ xs.length ≤ s.c ∧ s.c ≤ maxLen ∧ w.cell? ⟨b, o + i * 7, none⟩ = some (.string x.k) ∧ VCells w b (o + i * 7 + 1) x.v x.sl x.so ∧ RV w F x.v x.sl x.so ∧ x.k.size ≤ maxLen := by
  obtain ⟨b, o, h1, h2, h3⟩ := h.rd
  have hi : i < xs.length := (List.getElem?_eq_some_iff.1 hx).1
  obtain ⟨e1, e2, e3⟩ := h1.eq (by omega)
  have hc : ∀ c u, c < 7 → x.cells[c]? = some u → w.cell? ⟨b, o + i * 7 + c, none⟩ = some u := fun c u hc hu => by
    rw [Nat.add_assoc]; exact h3 _ u (by rw [flatE_at hx c hc]; exact hu)
  have hv := h.vals x (List.mem_of_getElem? hx)
  exact ⟨b, o, e1, h1.fits (by omega), e2, e3, hc 0 _ (by omega) rfl, ⟨hc 1 _ (by omega) rfl, hc 2 _ (by omega) rfl, hc 3 _ (by omega) rfl, hc 4 _ (by omega) rfl, hc 5 _ (by omega) rfl, hc 6 _ (by omega) rfl⟩, hv.1, hv.2⟩

/-- A pointer to a node. -/
abbrev ptr (h : Nat) (t : PT h) : Value := .pointer (some ⟨addr h t, 0, none⟩)
def ptrs (h : Nat) (ks : List (PT h)) : List Value := ks.map (ptr h)

/-- A node, and all below it, in memory (in blocks of F). -/
def IsN (w : World) (F : Nat → Prop) : (h : Nat) → PT h → Prop
  | 0, t => F t.1 ∧ ∃ (s : Sl) (xs : List LE), Blk w t.1 175 #[.slice s.a xs.length s.c, .slice none 0 0, .int .i64 0, .int .i64 xs.length, .string (firstK t.2), .string (lastK t.2), .bool false] ∧ ES w F s xs ∧ xs.map LE.ent = t.2
  | h + 1, t => F t.1 ∧ ∃ s : Sl, Blk w t.1 175 #[.slice none 0 0, .slice s.a t.2.length s.c, .int .i64 ((h + 1 : Nat) : Int), .int .i64 (ents (h + 1) t).length, .string (firstK (ents (h + 1) t)), .string (lastK (ents (h + 1) t)), .bool (thin (h + 1) t)] ∧
      Rd w F 1 s t.2.length (ptrs h t.2) ∧ ∀ k ∈ t.2, IsN w F h k
theorem IsN.agree {w w' : World} {F : Nat → Prop} (ha : Agree F w w') : ∀ {h : Nat} {t : PT h}, IsN w F h t → IsN w' F h t
  | 0, _, ⟨h1, s, xs, h2, h3, h4⟩ => ⟨h1, s, xs, h2.agree ha h1, h3.agree ha, h4⟩
  | _ + 1, _, ⟨h1, s, h2, h3, h4⟩ => ⟨h1, s, h2.agree ha h1, h3.agree ha, fun k hk => (h4 k hk).agree ha⟩
theorem IsN.mono {w : World} {F G : Nat → Prop} (hG : ∀ i, F i → G i) : ∀ {h : Nat} {t : PT h}, IsN w F h t → IsN w G h t
  | 0, _, ⟨h1, s, xs, h2, h3, h4⟩ => ⟨hG _ h1, s, xs, h2, h3.mono hG, h4⟩
  | _ + 1, _, ⟨h1, s, h2, h3, h4⟩ => ⟨hG _ h1, s, h2, h3.mono hG, fun k hk => (h4 k hk).mono hG⟩
theorem IsN.ext {w w' : World} {h : Nat} {t : PT h} (hn : IsN w (Lt w.heap.size) h t) (he : Ext w w') : IsN w' (Lt w'.heap.size) h t :=
  (hn.agree (he.agree fun _ h => h)).mono fun _ hi => Nat.lt_of_lt_of_le hi he.size
/-- A node's seven cells, whatever its height. -/
theorem IsN.cells {w : World} {F : Nat → Prop} : ∀ {h : Nat} {t : PT h}, IsN w F h t → F (addr h t) ∧ ∃ (se sk : Sl) (ne nk : Nat), ne + nk = size h t ∧
    Blk w (addr h t) 175 #[.slice se.a ne se.c, .slice sk.a nk sk.c, .int .i64 h, .int .i64 (ents h t).length, .string (firstK (ents h t)), .string (lastK (ents h t)), .bool (thin h t)]
  | 0, _, ⟨h1, s, xs, h2, h3, h4⟩ => ⟨h1, s, Sl.none, xs.length, 0, by rw [size, ← h4, List.length_map]; rfl, by rw [show (ents 0 _).length = xs.length from by rw [ents, ← h4, List.length_map]]; exact h2⟩
  | _ + 1, _, ⟨h1, s, h2, h3, h4⟩ => ⟨h1, Sl.none, s, 0, _, by rw [size, Nat.zero_add], h2⟩

theorem Blk.c7 {w : World} {g : Nat} {t : TypeId} {v0 v1 v2 v3 v4 v5 v6 : Value} (h : Blk w g t #[v0, v1, v2, v3, v4, v5, v6]) : w.cell? ⟨g, 0, none⟩ = some v0 ∧ w.cell? ⟨g, 1, none⟩ = some v1 ∧ w.cell? ⟨g, 2, none⟩ = some v2 ∧ w.cell? ⟨g, 3, none⟩ = some v3 ∧ w.cell? ⟨g, 4, none⟩ = some v4 ∧ w.cell? ⟨g, 5, none⟩ = some v5 ∧ w.cell? ⟨g, 6, none⟩ = some v6 :=
  ⟨h.cell 0, h.cell 1, h.cell 2, h.cell 3, h.cell 4, h.cell 5, h.cell 6⟩

/-! ### The small functions -/
theorem height_nil (w : World) : Calls Try.prog 67 #[.pointer none] w fun e w' => e = .returned (.int .i64 0) ∧ w = w' := by
  go_enter Try.func67, Try.ntmps67
  go_wp2
  go_ret
  exact ⟨rfl, rfl⟩
theorem height_any {w : World} {F : Nat → Prop} {h : Nat} {t : PT h} (hn : IsN w F h t) : Calls Try.prog 67 #[ptr h t] w fun e w' => e = .returned (.int .i64 h) ∧ w = w' := by
  obtain ⟨-, se, sk, ne, nk, -, hb⟩ := hn.cells
  obtain ⟨-, -, h2, -, -, -, -⟩ := hb.c7
  go_enter Try.func67, Try.ntmps67
  go_wp2
  go_ret
  exact ⟨rfl, rfl⟩
theorem count_nil (w : World) : Calls Try.prog 114 #[.pointer none] w fun e w' => e = .returned (.int .i64 0) ∧ w = w' := by
  go_enter Try.func114, Try.ntmps114
  go_wp2
  go_ret
  exact ⟨rfl, rfl⟩
theorem count_any {w : World} {F : Nat → Prop} {h : Nat} {t : PT h} (hn : IsN w F h t) : Calls Try.prog 114 #[ptr h t] w fun e w' => e = .returned (.int .i64 (ents h t).length) ∧ w = w' := by
  obtain ⟨-, se, sk, ne, nk, -, hb⟩ := hn.cells
  obtain ⟨-, -, -, h3, -, -, -⟩ := hb.c7
  go_enter Try.func114, Try.ntmps114
  go_wp2
  go_ret
  exact ⟨rfl, rfl⟩
theorem first_nil (w : World) : Calls Try.prog 149 #[.pointer none] w fun e w' => e = .returned (.string ByteArray.empty) ∧ w = w' := by
  go_enter Try.func149, Try.ntmps149
  go_wp2
  go_ret
  exact ⟨rfl, rfl⟩
theorem first_any {w : World} {F : Nat → Prop} {h : Nat} {t : PT h} (hn : IsN w F h t) : Calls Try.prog 149 #[ptr h t] w fun e w' => e = .returned (.string (firstK (ents h t))) ∧ w = w' := by
  obtain ⟨-, se, sk, ne, nk, -, hb⟩ := hn.cells
  obtain ⟨-, -, -, -, h4, -, -⟩ := hb.c7
  go_enter Try.func149, Try.ntmps149
  go_wp2
  go_ret
  exact ⟨rfl, rfl⟩
theorem size_nil (w : World) : Calls Try.prog 143 #[.pointer none] w fun e w' => e = .returned (.int .i64 0) ∧ w = w' := by
  go_enter Try.func143, Try.ntmps143
  go_wp2
  go_ret
  exact ⟨rfl, rfl⟩
theorem size_any {w : World} {F : Nat → Prop} {h : Nat} {t : PT h} (hn : IsN w F h t) (hs : size h t ≤ 1000) : Calls Try.prog 143 #[ptr h t] w fun e w' => e = .returned (.int .i64 (size h t)) ∧ ∃ q, w' = w.drewN q := by
  obtain ⟨-, se, sk, ne, nk, hnk, hb⟩ := hn.cells
  obtain ⟨h0, h1, -, -, -, -, -⟩ := hb.c7
  have hb1 : ne ≤ 1000 := by omega
  have hb2 : nk ≤ 1000 := by omega
  rw [← hnk]
  clear hnk
  go_enter Try.func143, Try.ntmps143
  go_wp2_with fail
  go_quiet (fail)
  go_wp2
  go_ret
  exact ⟨by simp, _, rfl⟩
theorem last_any {w : World} {F : Nat → Prop} {h : Nat} {t : PT h} (hn : IsN w F h t) : Calls Try.prog 147 #[ptr h t] w fun e w' => e = .returned (.string (lastK (ents h t))) ∧ w = w' := by
  obtain ⟨-, se, sk, ne, nk, -, hb⟩ := hn.cells
  obtain ⟨-, -, -, -, -, h5, -⟩ := hb.c7
  go_enter Try.func147, Try.ntmps147
  go_wp2
  go_ret
  exact ⟨rfl, rfl⟩
/-- Sound(false). -/
def sound0 (h : Nat) (t : PT h) : Bool := !thin h t && decide (4 ≤ size h t)
theorem sound_any {w : World} {F : Nat → Prop} {h : Nat} {t : PT h} (hn : IsN w F h t) (hs : size h t ≤ 1000) : Calls Try.prog 115 #[ptr h t, .bool false] w fun e w' => e = .returned (.bool (sound0 h t)) ∧ ∃ q, w' = w.drewN q := by
  obtain ⟨-, se, sk, ne, nk, -, hb⟩ := hn.cells
  obtain ⟨-, -, -, -, -, -, h6⟩ := hb.c7
  have hc := size_any hn hs
  clear hb
  cases ht : thin h t
  · rw [ht] at h6
    have e : sound0 h t = decide (4 ≤ size h t) := by simp [sound0, ht]
    rw [e]
    clear e ht
    go_enter Try.func115, Try.ntmps115
    go_wp2_with fail
    refine hc.mono ?_
    rintro e w' ⟨rfl, q, rfl⟩
    go_wp2_with fail
    go_ret
    exact ⟨by simp; omega, q, rfl⟩
  · rw [ht] at h6
    have e : sound0 h t = false := by simp [sound0, ht]
    rw [e]
    clear e ht hc
    go_enter Try.func115, Try.ntmps115
    go_wp2_with fail
    go_ret
    exact ⟨rfl, 0, rfl⟩

theorem Try.infoPNode : (Try.prog.info? 28).map (fun i => (i.zero, i.size, i.bytes)) = some (some (.pointer none), 1, 8) := by kernel_rfl
theorem ptrs_len (h : Nat) (ks : List (PT h)) : (ptrs h ks).length = ks.length := by simp [ptrs]
theorem ptrs_one (h : Nat) (ks : List (PT h)) : ∀ u ∈ ptrs h ks, u.oneCell' = true := by
  intro u hu
  obtain ⟨k, -, rfl⟩ := List.mem_map.1 hu
  rfl
/-- What slices.Clone hands back of a row. -/
def ClonePost (e' : TypeId) (n : Nat) (cs : List Value) (w : World) (e : Ending) (w' : World) : Prop :=
  ∃ s' : Sl, e = .returned (.slice s'.a n s'.c) ∧ w'.ownsRow w.heap.size e' 1 (.slice s'.a n s'.c) n cs ∧ Ext w w'

theorem clone_nil (w : World) : Calls Try.prog 170 #[.slice none 0 0] w fun e w' => e = .returned (.slice none 0 0) ∧ w = w' := by
  have he := fun w' => Lib.run_eql_slice_nil (P := Try.prog) w' 155 28 none 0 0 0 0 Try.underlying155
  go_enter Try.func170, Try.ntmps170
  go_wp2_with fail
  go_ret
  exact ⟨rfl, rfl⟩
set_option maxRecDepth 100000 in
set_option maxHeartbeats 400000 in
theorem clone_any {w : World} {F : Nat → Prop} {s : Sl} {n : Nat} {cs : List Value} (hr : Rd w F 1 s n cs) (h1 : ∀ u ∈ cs, u.oneCell' = true) (hn : n ≤ 1000) :
    Calls Try.prog 170 #[.slice s.a n s.c] w (ClonePost 28 n cs w) := by
  obtain ⟨i0, hi, hz0, hz1, hz2⟩ := info_parts Try.infoPNode
  obtain ⟨b, o, hs, hl, hc⟩ := hr
  cases hs with
  | nil =>
    have : cs = [] := List.eq_nil_of_length_eq_zero (by simpa using hl)
    subst this
    have he := fun w' => Lib.run_eql_slice_nil (P := Try.prog) w' 155 28 none 0 0 0 0 Try.underlying155
    go_enter Try.func170, Try.ntmps170
    go_wp2_with fail
    go_ret
    exact ⟨Sl.none, rfl, World.ownsRow_nil _ _ _ _, Ext.refl _⟩
  | some _ c _ _ hnc hcm hb =>
    have he := fun w' => Lib.run_eql_slice_nil (P := Try.prog) w' 155 28 (some ⟨b, o, none⟩) n c 0 0 Try.underlying155
    have hlt : ∀ j u, cs[j]? = some u → b < w.heap.size := fun j u hj => World.block_lt_of_cell? w _ (hc j u hj)
    have hsrc : Rd (w.alloc (.cells #[] 28)) F 1 ⟨some ⟨b, o, none⟩, c⟩ n cs := ⟨b, o, .some _ _ _ _ hnc hcm hb, hl, fun j u hj => (World.cell?_alloc_lt _ _ _ (hlt j u hj)).trans (hc j u hj)⟩
    have HN := Lib.hid hsrc
    have H1 := Lib.hid h1
    have h63 : 0 + n ≤ maxLen := by unfold maxLen; omega
    clear hsrc hc h1 hl hlt
    go_enter Try.func170, Try.ntmps170
    go_wp2_with (at_builtin; refine wpList_append_x _ rfl _ _ 155 rfl w.heap.size 28 i0 (.pointer none) 1 8 Try.underlying155 hi hz0 hz1 hz2 rfl (by decide) ⟨some ⟨w.heap.size, 0, none⟩, 0⟩ 0 [] rfl (World.ownsRow_made w #[] 0 (Nat.le_refl _) (by decide) rfl) F ⟨some ⟨b, o, none⟩, c⟩ n cs rfl HN.out H1.out h63 (by omega) (by simp) ?_; intro s' w1 hown hwr _; simp only [Nat.zero_add, List.nil_append] at hown)
    go_ret
    exact ⟨s', by simp, hown, ((Ext.refl w).alloc _ _).wr hwr (by rintro i ⟨⟩; exact Nat.le_refl _)⟩

/-- Kids of an inner node: a row of its own. -/
theorem kids_any {w : World} {F : Nat → Prop} {h : Nat} {t : PT (h + 1)} (hn : IsN w F (h + 1) t) (hs : t.2.length ≤ 1000) : Calls Try.prog 137 #[ptr (h + 1) t] w (ClonePost 28 t.2.length (ptrs h t.2) w) := by
  obtain ⟨-, s, hb, hr, -⟩ := hn
  have h1 : w.cell? ⟨addr (h + 1) t, 1, none⟩ = some (.slice s.a t.2.length s.c) := hb.c7.2.1
  have hc := clone_any hr (ptrs_one _ _) hs
  have HR := Lib.hid hr
  clear hb hr
  go_enter Try.func137, Try.ntmps137
  go_wp2_with fail
  refine hc.mono ?_
  rintro e w' ⟨s', rfl, h2, h3⟩
  have H2 := Lib.hid h2
  clear h2
  go_wp2_with fail
  go_ret
  exact ⟨s', rfl, H2.out, h3⟩
theorem kids_leaf {w : World} {F : Nat → Prop} {t : PT 0} (hn : IsN w F 0 t) : Calls Try.prog 137 #[ptr 0 t] w fun e w' => e = .returned (.slice none 0 0) ∧ w = w' := by
  obtain ⟨-, s, xs, hb, -, -⟩ := hn
  have h1 : w.cell? ⟨addr 0 t, 1, none⟩ = some (.slice none 0 0) := hb.c7.2.1
  have hc := clone_nil w
  clear hb
  go_enter Try.func137, Try.ntmps137
  go_wp2_with fail
  refine hc.mono ?_
  rintro e w' ⟨rfl, rfl⟩
  go_wp2_with fail
  go_ret
  exact ⟨rfl, rfl⟩

/-! ### Rows of entries that the call owns -/
structure OE (w : World) (base : Nat) (s : Sl) (xs : List LE) : Prop where
  own : w.ownsRow base 56 7 (.slice s.a xs.length s.c) xs.length (flatE xs)
  vals : Vals w (fun b => (base ≤ b ∧ b < w.heap.size) ∧ s.row ≠ some b) xs
  few : xs.length * 104 ≤ 140737488355328
theorem OE.nil (w : World) (base : Nat) : OE w base Sl.none [] := ⟨World.ownsRow_nil _ _ _ _, fun x h => by simp at h, by simp⟩
theorem OE.es {w : World} {base : Nat} {s : Sl} {xs : List LE} (h : OE w base s xs) : ES w (In base w.heap.size) s xs := ⟨Rd.of_own h.own, h.vals.mono fun _ hi => hi.1, h.few⟩
theorem own_agree {w w' : World} {base e size n : Nat} {s : Sl} {xs : List Value} (h : w.ownsRow base e size (.slice s.a n s.c) n xs) {F : Nat → Prop} (ha : Agree F w w') (hF : ∀ b, s.row = some b → F b) : w'.ownsRow base e size (.slice s.a n s.c) n xs := by
  refine ⟨h.1, ?_⟩
  rcases h.2 with hl | ⟨g, cap, cur, hv, hg, hh, r⟩
  · exact .inl hl
  · refine .inr ⟨g, cap, cur, hv, hg, ?_, r⟩
    simp only [Value.slice.injEq] at hv
    exact (ha g (hF g (by simp [Sl.row, hv.1]))).trans hh
theorem OE.ext {w w' : World} {base : Nat} {s : Sl} {xs : List LE} (h : OE w base s xs) (he : Ext w w') : OE w' base s xs :=
  ⟨own_agree h.own (he.agree (F := Lt w.heap.size) fun _ hi => hi) fun b hb => (h.own.lt b (by obtain ⟨a, c⟩ := s; cases a <;> simp_all [Value.ownBlock, Sl.row])).2,
    (h.vals.agree (he.agree fun _ hi => hi.1.2)).mono fun i hi => ⟨⟨hi.1.1, Nat.lt_of_lt_of_le hi.1.2 he.size⟩, hi.2⟩, h.few⟩

end Go.Proofs.Ytpapoalgocmlaaa
