/- What the theorem needs of the texts Mf: no condition of its own. -/
import Derived.ChangeArms
import Derived.DataReads
import Derived.Handed
import Derived.ChangeShapes
import Derived.WideShapes
import Derived.WideKeyArgs
import Derived.ChangeOld
import Derived.ProofKit
import Derived.OpenShut
import Derived.WalkKit
import Derived.Test.YtohajcflklejjaaPoa
import Derived.Test.YtohajcflklejjaaPob
import Derived.Test.YtohajcflklejjaaPoc
import Derived.Test.YtohajcflklejjaaPod
import Derived.Test.YtohajcflklejjaaPoe
namespace Go.Proofs.Ytohajcflklejjaa
open Go.RowKit
set_option linter.unusedVariables false
section
variable {H : Type} {enc : TypeId × Value → H} {P : Program} {w : World} {held : Bool}
abbrev WOk (P : Program) (t : TypeId) (d : DataW H) : Prop := (DataW.weights P t d).all (· ≤ reachBytes) = true
abbrev tr (enc : TypeId × Value → H) (P : Program) (w : World) (held : Bool) (fuel : Nat) (t : TypeId) (cs : List Value) : Option (DataW H × List MemPlace) := DataW.trod enc P w 0 (fun _ => true) held fuel t cs
theorem weightsAll_mem {e : TypeId} : ∀ {l : List (DataW H)}, (DataW.weightsAll P e l).all (· ≤ reachBytes) = true → ∀ d ∈ l, WOk P e d
  | [], _, d, hd => by cases hd
  | x :: l, h, d, hd => by
    simp only [DataW.weightsAll, List.all_append, Bool.and_eq_true] at h
    rcases List.mem_cons.1 hd with rfl | hd
    · exact h.1
    · exact weightsAll_mem h.2 d hd
theorem weightsEach_at : ∀ {ts : List TypeId} {ds : List (DataW H)}, (DataW.weightsEach P ts ds).all (· ≤ reachBytes) = true → ∀ (i : Nat) (t : TypeId) (d : DataW H), ts[i]? = some t → ds[i]? = some d → WOk P t d
  | [], _, _, i, t, d, ht, _ => by simp at ht
  | t :: ts, [], _, i, t', d, _, hd => by simp at hd
  | t :: ts, d :: ds, h, i, t', d', ht, hd => by
    simp only [DataW.weightsEach, List.all_append, Bool.and_eq_true] at h
    cases i with
    | zero => simp at ht hd; subst ht hd; exact h.1
    | succ i => exact weightsEach_at h.2 i t' d' (by simpa using ht) (by simpa using hd)
theorem trod_rows {t e : TypeId} {C B fuel : Nat} {cs : List Value} {x : DataW H × List MemPlace} (ht : P.underlying t = some (.slice e)) (hC : P.cellsOf e = C) (hB : P.bytesOf e = B) (hC0 : 0 < C)
    (h : tr enc P w held fuel t cs = some x) (hw : WOk P t x.1) :
    ∃ (n len : Nat) (s : Sl) (b o : Nat), fuel = n + 1 ∧ cs = [.slice s.a len s.c] ∧ SlAt (Lt w.heap.size) s len b o ∧ len * B ≤ 140737488351232 ∧
      ∀ i, i < len → ∃ cs' y, cs'.length = C ∧ (∀ j, j < C → w.cell? ⟨b, o + i * C + j, none⟩ = cs'[j]?) ∧ tr enc P w held n e cs' = some y ∧ WOk P e y.1 := by
  rcases DataW.trod_slice ht h with ⟨rfl, rfl⟩ | ⟨a, len, cap, elems, rest, n, rfl, rfl, rfl, -, hl, hm, hlen, hel, hsp, -⟩
  · cases fuel with
    | zero => simp [tr, DataW.trod] at h
    | succ n => exact ⟨n, 0, Sl.none, 0, 0, rfl, rfl, .nil _ _, by omega, fun i hi => by omega⟩
  · obtain ⟨hr, hrest⟩ := hsp rfl
    have hw0 : (elems.length + rest.length) * P.bytesOf e ≤ reachBytes ∧ (DataW.weightsAll P e (elems.map (·.1))).all (· ≤ reachBytes) = true := by
      have hw' := hw
      simp only [WOk, DataW.weights, ht, List.all_cons, List.all_append, Bool.and_eq_true, decide_eq_true_eq, List.length_map] at hw'
      exact ⟨hw'.1, hw'.2.1⟩
    rw [hB] at hw0
    rw [hC] at hel hrest
    by_cases hcap : cap = 0
    · subst hcap
      obtain rfl : len = 0 := by omega
      exact ⟨n, 0, ⟨some a, 0⟩, 0, 0, rfl, rfl, .zero a 0 0, by omega, fun i hi => by omega⟩
    · have hlb : len * B ≤ 140737488351232 := by
        have h1 : len * B ≤ (elems.length + rest.length) * B := Nat.mul_le_mul_right _ (by omega)
        have h2 := hw0.1
        have h3 : reachBytes = 140737488351232 := rfl
        omega
      have hex : ∃ z : DataW H × List MemPlace, ∃ k, (w.cells? 0 (a.add (k * C)) C).bind (tr enc P w held n e) = some z ∧ k = 0 := by
        by_cases h0 : 0 < len
        · exact ⟨elems[0]'(by omega), 0, by rw [hel 0 h0]; exact List.getElem?_eq_getElem (by omega), rfl⟩
        · have := hrest 0 (by omega)
          have e0 : len = 0 := by omega
          rw [e0, Nat.add_zero] at this
          exact ⟨rest[0]'(by omega), 0, by rw [this]; exact List.getElem?_eq_getElem (by omega), rfl⟩
      obtain ⟨z, k, hz, rfl⟩ := hex
      obtain ⟨cs0, hc0, -⟩ := Option.bind_eq_some_iff.1 hz
      obtain ⟨-, hl0, hat0⟩ := World.cells?_some hc0
      have hcell : w.cell? (a.add 0) = some (cs0[0]'(by omega)) := by
        have := hat0 0 hC0
        rw [Nat.zero_mul] at this
        rw [List.getElem?_eq_getElem (by omega)] at this
        simpa [Addr.add] using this
      obtain ⟨b, o, spot⟩ := a
      have hspot : spot = none := by simpa [Addr.add] using World.cell?_spot hcell
      subst hspot
      have hblk : b < w.heap.size := by
        have h1 : w.cell? ⟨b, o, none⟩ = some (cs0[0]'(by omega)) := by simpa [Addr.add] using hcell
        exact World.block_lt_of_cell? w _ h1
      refine ⟨n, len, ⟨some ⟨b, o, none⟩, cap⟩, b, o, rfl, rfl, .some _ _ _ _ hl hm hblk, hlb, fun i hi => ?_⟩
      have he := hel i hi
      rw [List.getElem?_eq_getElem (by omega)] at he
      obtain ⟨cs', h1, h2⟩ := Option.bind_eq_some_iff.1 he
      obtain ⟨-, hl1, hat1⟩ := World.cells?_some h1
      refine ⟨cs', _, hl1, fun j hj => ?_, h2, weightsAll_mem hw0.2 _ (List.mem_map_of_mem (List.getElem_mem (by omega)))⟩
      have := hat1 j hj
      rw [Go.WideShapes.add_plain, Go.WideShapes.add_plain] at this
      exact this
theorem trod_fields {t : TypeId} {fs : List Field} {fuel : Nat} {cs : List Value} {x : DataW H × List MemPlace} (ht : P.underlying t = some (.struct fs.toArray)) (h : tr enc P w held fuel t cs = some x) (hw : WOk P t x.1) :
    ∃ n, fuel = n + 1 ∧ cs.length = P.cellsOf t ∧ ∀ (i : Nat) (f : Field), fs[i]? = some f → ∃ y, tr enc P w held n f.type ((cs.drop f.offset).take (P.cellsOf f.type)) = some y ∧ WOk P f.type y.1 := by
  obtain ⟨xs, n, rfl, rfl, hl, hlen, hf⟩ := DataW.trod_struct ht h
  refine ⟨n, rfl, hl, fun i f hi => ?_⟩
  have hw' : (DataW.weightsEach P (fs.map (·.type)) (xs.map (·.1))).all (· ≤ reachBytes) = true := by
    have := hw
    simpa [WOk, DataW.weights, ht] using this
  have hil : i < fs.length := (List.getElem?_eq_some_iff.1 hi).1
  have h1 := hf i f (by simpa using hi)
  have hxl : i < xs.length := by simp at hlen; omega
  rw [List.getElem?_eq_getElem hxl] at h1
  exact ⟨_, h1, weightsEach_at hw' i _ _ (by rw [List.getElem?_map, hi]; rfl) (by rw [List.getElem?_map, List.getElem?_eq_getElem hxl]; rfl)⟩
theorem trod_i {t : TypeId} {k : IntKind} {fuel : Nat} {cs : List Value} {x : DataW H × List MemPlace} (ht : P.underlying t = some (.int k)) (h : tr enc P w held fuel t cs = some x) : ∃ n, cs = [.int k n] ∧ (Lit.int k n).wf = true := by
  obtain ⟨n, h1, -, h2⟩ := DataW.trod_int ht h
  exact ⟨n, h1, h2⟩
theorem trod_b {t : TypeId} {fuel : Nat} {cs : List Value} {x : DataW H × List MemPlace} (ht : P.underlying t = some .bool) (h : tr enc P w held fuel t cs = some x) : ∃ b, cs = [.bool b] := by
  obtain ⟨b, h1, -⟩ := DataW.trod_bool ht h
  exact ⟨b, h1⟩
theorem trod_s {t : TypeId} {fuel : Nat} {cs : List Value} {x : DataW H × List MemPlace} (ht : P.underlying t = some .string) (h : tr enc P w held fuel t cs = some x) : ∃ s, cs = [.string s] ∧ s.size ≤ maxLen := by
  obtain ⟨s, h1, -, h2⟩ := DataW.trod_string ht h
  exact ⟨s, h1, h2⟩
end
theorem skolem {α : Type} [Inhabited α] {p : Nat → Prop} {q : Nat → α → Prop} (h : ∀ i, p i → ∃ a, q i a) : ∃ f : Nat → α, ∀ i, p i → q i (f i) := by
  have : ∀ i, ∃ y : α, p i → q i y := fun i => by
    by_cases hp : p i
    · obtain ⟨a, hq⟩ := h i hp
      exact ⟨a, fun _ => hq⟩
    · exact ⟨default, fun h => absurd h hp⟩
  exact Classical.axiomOfChoice this
instance : Inhabited Val := ⟨.mk 0 false 0 ByteArray.empty [] [] []⟩
instance : Inhabited Sl := ⟨Sl.none⟩
theorem six_list {cs : List Value} (h : cs.length = 6) : ∃ a b c d e f, cs = [a, b, c, d, e, f] := by
  match cs, h with
  | [a, b, c, d, e, f], _ => exact ⟨_, _, _, _, _, _, rfl⟩
theorem at_of_take {cs l : List Value} {off k : Nat} (h : (cs.drop off).take k = l) {j : Nat} (hj : j < k) : cs[off + j]? = l[j]? := by
  rw [← h, List.getElem?_take, if_pos hj, List.getElem?_drop]
abbrev cellsV (v : Val) (sl so : Sl) : List Value := [.int .i64 v.kind, .bool v.b, .int .i64 v.i, .string v.t, .slice sl.a v.l.length sl.c, .slice so.a v.ok.length so.c]
theorem ofFn_get {α : Type} {n : Nat} {f : Nat → α} {j : Nat} {d : α} (h : ((List.range n).map f)[j]? = some d) : j < n ∧ d = f j := by
  rw [List.getElem?_map] at h
  obtain ⟨k, hk, rfl⟩ := Option.map_eq_some_iff.1 h
  obtain ⟨h1, rfl⟩ := List.getElem?_eq_some_iff.1 hk
  simp at h1
  exact ⟨h1, by simp⟩
end Go.Proofs.Ytohajcflklejjaa
namespace Go.Proofs.Ytohajcflklejjaa
open Go.RowKit
set_option linter.unusedVariables false
set_option linter.unusedSimpArgs false
set_option maxRecDepth 100000
section
variable {H : Type} {enc : TypeId × Value → H} {w : World} {held : Bool}
theorem cellsOfValue : Try.prog.cellsOf 51 = 6 := by kernel_rfl
theorem cellsOfMember : Try.prog.cellsOf 97 = 7 := by kernel_rfl
theorem cellsOfEntry : Try.prog.cellsOf 63 = 7 := by kernel_rfl
theorem bytesOfValue : Try.prog.bytesOf 51 = 88 := by kernel_rfl
theorem bytesOfMember : Try.prog.bytesOf 97 = 104 := by kernel_rfl
theorem bytesOfEntry : Try.prog.bytesOf 63 = 104 := by kernel_rfl
theorem rv_of_trod : ∀ (fuel : Nat) {cs : List Value} {x : DataW H × List MemPlace}, tr enc Try.prog w held fuel 51 cs = some x → WOk Try.prog 51 x.1 → ∃ v sl so, cs = cellsV v sl so ∧ RV w (Lt w.heap.size) v sl so := by
  intro fuel
  induction fuel using Nat.strongRecOn with
  | ind fuel ih =>
  intro cs x h hw
  obtain ⟨n, rfl, hl, hf⟩ := trod_fields Try.underlying51 h hw
  rw [cellsOfValue] at hl
  obtain ⟨c0, c1, c2, c3, c4, c5, rfl⟩ := six_list hl
  obtain ⟨y0, h0, -⟩ := hf 0 _ rfl
  obtain ⟨y1, h1, -⟩ := hf 1 _ rfl
  obtain ⟨y2, h2, -⟩ := hf 2 _ rfl
  obtain ⟨y3, h3, -⟩ := hf 3 _ rfl
  obtain ⟨y4, h4, w4⟩ := hf 4 _ rfl
  obtain ⟨y5, h5, w5⟩ := hf 5 _ rfl
  obtain ⟨k, hk, wk⟩ := trod_i (k := .i64) (by kernel_rfl) h0
  obtain ⟨bb, hb⟩ := trod_b (by kernel_rfl) h1
  obtain ⟨i, hi, wi⟩ := trod_i (k := .i64) (by kernel_rfl) h2
  obtain ⟨t, ht, wt⟩ := trod_s (by kernel_rfl) h3
  obtain ⟨n4, len, s, b, o, hn4, hc4, hs, hby, he⟩ := trod_rows (e := 51) (C := 6) (B := 88) (by kernel_rfl) cellsOfValue bytesOfValue (by decide) h4 w4
  obtain ⟨n5, len', s', b', o', hn5, hc5, hs', hby', he'⟩ := trod_rows (e := 97) (C := 7) (B := 104) (by kernel_rfl) cellsOfMember bytesOfMember (by decide) h5 w5
  have k0 : ∀ c : Value, ([c0, c1, c2, c3, c4, c5].drop 0).take 1 = [c] → c0 = c := fun c h => by simpa using h
  have k1 : ∀ c : Value, ([c0, c1, c2, c3, c4, c5].drop 1).take 1 = [c] → c1 = c := fun c h => by simpa using h
  have k2 : ∀ c : Value, ([c0, c1, c2, c3, c4, c5].drop 2).take 1 = [c] → c2 = c := fun c h => by simpa using h
  have k3 : ∀ c : Value, ([c0, c1, c2, c3, c4, c5].drop 3).take 1 = [c] → c3 = c := fun c h => by simpa using h
  have k4 : ∀ c : Value, ([c0, c1, c2, c3, c4, c5].drop 4).take 1 = [c] → c4 = c := fun c h => by simpa using h
  have k5 : ∀ c : Value, ([c0, c1, c2, c3, c4, c5].drop 5).take 1 = [c] → c5 = c := fun c h => by simpa using h
  obtain rfl := k0 _ hk
  obtain rfl := k1 _ hb
  obtain rfl := k2 _ hi
  obtain rfl := k3 _ ht
  obtain rfl := k4 _ hc4
  obtain rfl := k5 _ hc5
  clear k0 k1 k2 k3 k4 k5 hk hb hi ht hc4 hc5 h0 h1 h2 h3 h4 h5 hf
  have hE : ∀ i, i < len → ∃ a : Val × Sl × Sl, VCells w b (o + i * 6) a.1 a.2.1 a.2.2 ∧ RV w (Lt w.heap.size) a.1 a.2.1 a.2.2 := fun i hi => by
    obtain ⟨cs', y, hl6, hc, ht, hw⟩ := he i hi
    obtain ⟨v, sl, so, rfl, hr⟩ := ih n4 (by omega) ht hw
    exact ⟨(v, sl, so), ⟨hc 0 (by decide), hc 1 (by decide), hc 2 (by decide), hc 3 (by decide), hc 4 (by decide), hc 5 (by decide)⟩, hr⟩
  have hM : ∀ i, i < len' → ∃ a : ByteArray × Val × Sl × Sl, (w.cell? ⟨b', o' + i * 7, none⟩ = some (.string a.1) ∧ a.1.size ≤ maxLen) ∧ VCells w b' (o' + i * 7 + 1) a.2.1 a.2.2.1 a.2.2.2 ∧ RV w (Lt w.heap.size) a.2.1 a.2.2.1 a.2.2.2 := fun i hi => by
    obtain ⟨cs', y, hl7, hc, ht, hw⟩ := he' i hi
    obtain ⟨n6, rfl, hl, hf⟩ := trod_fields Try.underlying97 ht hw
    obtain ⟨z0, g0, -⟩ := hf 0 _ rfl
    obtain ⟨z1, g1, u1⟩ := hf 1 _ rfl
    obtain ⟨k, hk, wk⟩ := trod_s (by kernel_rfl) g0
    have g1' : tr enc Try.prog w held n6 51 ((cs'.drop 1).take 6) = some z1 := by
      have := g1
      dsimp only at this
      rw [cellsOfValue] at this
      exact this
    obtain ⟨v, sl, so, hv, hr⟩ := ih n6 (by omega) g1' u1
    have a0 : cs'[0]? = some (.string k) := at_of_take hk (j := 0) (by decide)
    have cj : ∀ j, j < 6 → w.cell? ⟨b', o' + i * 7 + 1 + j, none⟩ = (cellsV v sl so)[j]? := fun j hj => by
      rw [← at_of_take hv hj, ← hc (1 + j) (by omega), Nat.add_assoc (o' + i * 7)]
    exact ⟨(k, v, sl, so), ⟨(hc 0 (by decide)).trans a0, wk⟩, ⟨cj 0 (by decide), cj 1 (by decide), cj 2 (by decide), cj 3 (by decide), cj 4 (by decide), cj 5 (by decide)⟩, hr⟩
  obtain ⟨f, hf⟩ := skolem hE
  obtain ⟨g, hg⟩ := skolem hM
  refine ⟨.mk k bb i t ((List.range len).map fun j => (f j).1) ((List.range len').map fun j => (g j).1) ((List.range len').map fun j => (g j).2.1), s, s', by simp [cellsV, Val.kind, Val.b, Val.i, Val.t, Val.l, Val.ok], ?_⟩
  refine .mk b o b' o' (fun j => ((f j).2.1, (f j).2.2)) (fun j => ((g j).2.2.1, (g j).2.2.2)) (by rw [List.length_map, List.length_range]; exact hs) (by rw [List.length_map, List.length_range]; exact hs') (by simp) (fun j d hj => ?_) (fun j d hj => ?_) (fun j d hj => ?_) (fun j d hj => ?_) (fun j d hj => ?_) wk wi wt (by rw [List.length_map, List.length_range]; omega) (by rw [List.length_map, List.length_range]; omega)
  · obtain ⟨h1, rfl⟩ := ofFn_get hj; exact (hf j h1).1
  · obtain ⟨h1, rfl⟩ := ofFn_get hj; exact (hf j h1).2
  · obtain ⟨h1, rfl⟩ := ofFn_get hj; exact (hg j h1).1
  · obtain ⟨h1, rfl⟩ := ofFn_get hj; exact (hg j h1).2.1
  · obtain ⟨h1, rfl⟩ := ofFn_get hj; exact (hg j h1).2.2
theorem es_of_trod {fuel : Nat} {cs : List Value} {x : DataW H × List MemPlace} (h : tr enc Try.prog w held fuel 22 cs = some x) (hw : WOk Try.prog 22 x.1) : ∃ (s : Sl) (xs : List LE), cs = [.slice s.a xs.length s.c] ∧ ES w (Lt w.heap.size) s xs := by
  obtain ⟨n, len, s, b, o, -, hc, hs, hby, he⟩ := trod_rows (e := 63) (C := 7) (B := 104) Try.underlying22 cellsOfEntry bytesOfEntry (by decide) h hw
  have hE : ∀ i, i < len → ∃ a : ByteArray × Val × Sl × Sl, (w.cell? ⟨b, o + i * 7, none⟩ = some (.string a.1) ∧ a.1.size ≤ maxLen) ∧ VCells w b (o + i * 7 + 1) a.2.1 a.2.2.1 a.2.2.2 ∧ RV w (Lt w.heap.size) a.2.1 a.2.2.1 a.2.2.2 := fun i hi => by
    obtain ⟨cs', y, hl7, hc, ht, hw⟩ := he i hi
    obtain ⟨n6, rfl, hl, hf⟩ := trod_fields Try.underlying63 ht hw
    obtain ⟨z0, g0, -⟩ := hf 0 _ rfl
    obtain ⟨z1, g1, u1⟩ := hf 1 _ rfl
    obtain ⟨k, hk, wk⟩ := trod_s (by kernel_rfl) g0
    have g1' : tr enc Try.prog w held n6 51 ((cs'.drop 1).take 6) = some z1 := by
      have := g1
      dsimp only at this
      rw [cellsOfValue] at this
      exact this
    obtain ⟨v, sl, so, hv, hr⟩ := rv_of_trod n6 g1' u1
    have a0 : cs'[0]? = some (.string k) := at_of_take hk (j := 0) (by decide)
    have cj : ∀ j, j < 6 → w.cell? ⟨b, o + i * 7 + 1 + j, none⟩ = (cellsV v sl so)[j]? := fun j hj => by
      rw [← at_of_take hv hj, ← hc (1 + j) (by omega), Nat.add_assoc (o + i * 7)]
    exact ⟨(k, v, sl, so), ⟨(hc 0 (by decide)).trans a0, wk⟩, ⟨cj 0 (by decide), cj 1 (by decide), cj 2 (by decide), cj 3 (by decide), cj 4 (by decide), cj 5 (by decide)⟩, hr⟩
  obtain ⟨f, hf⟩ := skolem hE
  refine ⟨s, (List.range len).map fun j => ⟨(f j).1, (f j).2.1, (f j).2.2.1, (f j).2.2.2⟩, by rw [List.length_map, List.length_range]; exact hc, ?_⟩
  refine ⟨⟨b, o, by rw [List.length_map, List.length_range]; exact hs, flatE_len _, fun j u hj => ?_⟩, fun x hx => ?_, by rw [List.length_map, List.length_range]; omega⟩
  · have hjl : j < len * 7 := by
      have := (List.getElem?_eq_some_iff.1 hj).1
      rw [flatE_len, List.length_map, List.length_range] at this
      exact this
    obtain ⟨i, c, rfl, hc7⟩ : ∃ i c, j = i * 7 + c ∧ c < 7 := ⟨j / 7, j % 7, by omega, by omega⟩
    have hi : i < len := by omega
    have hx : ((List.range len).map fun j => (⟨(f j).1, (f j).2.1, (f j).2.2.1, (f j).2.2.2⟩ : LE))[i]? = some ⟨(f i).1, (f i).2.1, (f i).2.2.1, (f i).2.2.2⟩ := by
      rw [List.getElem?_map, List.getElem?_range hi]; rfl
    rw [flatE_at hx c hc7] at hj
    obtain ⟨⟨a0, -⟩, e, -⟩ := hf i hi
    rw [← Nat.add_assoc]
    have hc7' : c = 0 ∨ c = 1 ∨ c = 2 ∨ c = 3 ∨ c = 4 ∨ c = 5 ∨ c = 6 := by omega
    rcases hc7' with rfl | rfl | rfl | rfl | rfl | rfl | rfl
    · exact a0.trans hj
    · exact e.c0.trans hj
    · exact e.c1.trans hj
    · exact e.c2.trans hj
    · exact e.c3.trans hj
    · exact e.c4.trans hj
    · exact e.c5.trans hj
  · obtain ⟨j, hj⟩ := List.getElem?_of_mem hx
    obtain ⟨h1, rfl⟩ := ofFn_get hj
    exact ⟨(hf j h1).2.2, (hf j h1).1.2⟩
structure LA where
  kd : Int
  k : ByteArray
  v : Val
  sl : Sl
  so : Sl
instance : Inhabited LA := ⟨⟨0, ByteArray.empty, default, Sl.none, Sl.none⟩⟩
structure ACells (w : World) (b o : Nat) (x : LA) : Prop where
  c0 : w.cell? ⟨b, o, none⟩ = some (.int .i64 x.kd)
  c1 : w.cell? ⟨b, o + 1, none⟩ = some (.string x.k)
  cv : VCells w b (o + 2) x.v x.sl x.so
structure AS (w : World) (F : Nat → Prop) (s : Sl) (xs : List LA) : Prop where
  ex : ∃ b o, SlAt F s xs.length b o ∧ ∀ j x, xs[j]? = some x → ACells w b (o + j * 8) x
  vals : ∀ x ∈ xs, RV w F x.v x.sl x.so ∧ x.k.size ≤ maxLen ∧ (Lit.int .i64 x.kd).wf = true
  few : xs.length * 112 ≤ 140737488355328
theorem AS.at {w : World} {F : Nat → Prop} {s : Sl} {xs : List LA} (h : AS w F s xs) {i : Nat} {x : LA} (hx : xs[i]? = some x) :
    ∃ b o, s.a = some ⟨b, o, none⟩ ∧ F b ∧ xs.length ≤ s.c ∧ s.c ≤ maxLen ∧ ACells w b (o + i * 8) x ∧ RV w F x.v x.sl x.so ∧ x.k.size ≤ maxLen ∧ (Lit.int .i64 x.kd).wf = true := by
  obtain ⟨b, o, h1, h2⟩ := h.ex
  obtain ⟨e1, e2, e3⟩ := h1.eq (lt_length hx)
  have hv := h.vals x (List.mem_of_getElem? hx)
  exact ⟨b, o, e1, h1.fits (lt_length hx), e2, e3, h2 i x hx, hv.1, hv.2⟩
theorem ACells.agree {w w' : World} {b o : Nat} {x : LA} (h : ACells w b o x) {F : Nat → Prop} (ha : Agree F w w') (hb : F b) : ACells w' b o x := ⟨(ha.cell hb).trans h.c0, (ha.cell hb).trans h.c1, h.cv.agree ha hb⟩
theorem AS.agree {w w' : World} {F : Nat → Prop} {s : Sl} {xs : List LA} (h : AS w F s xs) (ha : Agree F w w') : AS w' F s xs := by
  obtain ⟨⟨b, o, h1, h2⟩, h3, h4⟩ := h
  exact ⟨⟨b, o, h1, fun j x hx => (h2 j x hx).agree ha (h1.fits (lt_length hx))⟩, fun x hx => ⟨(h3 x hx).1.agree ha, (h3 x hx).2⟩, h4⟩
theorem AS.mono {w : World} {F G : Nat → Prop} {s : Sl} {xs : List LA} (h : AS w F s xs) (hG : ∀ i, F i → G i) : AS w G s xs := by
  obtain ⟨⟨b, o, h1, h2⟩, h3, h4⟩ := h
  exact ⟨⟨b, o, h1.mono hG, h2⟩, fun x hx => ⟨(h3 x hx).1.mono hG, (h3 x hx).2⟩, h4⟩
theorem cellsOfAct07 : Try.prog.cellsOf 53 = 8 := by kernel_rfl
theorem bytesOfAct07 : Try.prog.bytesOf 53 = 112 := by kernel_rfl
theorem acts_of_trod {fuel : Nat} {cs : List Value} {x : DataW H × List MemPlace} (h : tr enc Try.prog w held fuel 26 cs = some x) (hw : WOk Try.prog 26 x.1) : ∃ (s : Sl) (xs : List LA), cs = [.slice s.a xs.length s.c] ∧ AS w (Lt w.heap.size) s xs := by
  obtain ⟨n, len, s, b, o, -, hc, hs, hby, he⟩ := trod_rows (e := 53) (C := 8) (B := 112) Try.underlying26 cellsOfAct07 bytesOfAct07 (by decide) h hw
  have hE : ∀ i, i < len → ∃ a : LA, ACells w b (o + i * 8) a ∧ RV w (Lt w.heap.size) a.v a.sl a.so ∧ a.k.size ≤ maxLen ∧ (Lit.int .i64 a.kd).wf = true := fun i hi => by
    obtain ⟨cs', y, hl8, hc, ht, hw⟩ := he i hi
    obtain ⟨n6, rfl, hl, hf⟩ := trod_fields Try.underlying53 ht hw
    obtain ⟨z0, g0, -⟩ := hf 0 _ rfl
    obtain ⟨z1, g1, -⟩ := hf 1 _ rfl
    obtain ⟨z2, g2, u2⟩ := hf 2 _ rfl
    obtain ⟨kd, hkd, wkd⟩ := trod_i (k := .i64) (by kernel_rfl) g0
    obtain ⟨k, hk, wk⟩ := trod_s (by kernel_rfl) g1
    have g2' : tr enc Try.prog w held n6 51 ((cs'.drop 2).take 6) = some z2 := by
      have := g2
      dsimp only at this
      rw [cellsOfValue] at this
      exact this
    obtain ⟨v, sl, so, hv, hr⟩ := rv_of_trod n6 g2' u2
    have a0 : cs'[0]? = some (.int .i64 kd) := at_of_take hkd (j := 0) (by decide)
    have a1 : cs'[1]? = some (.string k) := at_of_take hk (j := 0) (by decide)
    have cj : ∀ j, j < 6 → w.cell? ⟨b, o + i * 8 + 2 + j, none⟩ = (cellsV v sl so)[j]? := fun j hj => by
      rw [← at_of_take hv hj, ← hc (2 + j) (by omega), Nat.add_assoc (o + i * 8)]
    exact ⟨⟨kd, k, v, sl, so⟩, ⟨(hc 0 (by decide)).trans a0, (hc 1 (by decide)).trans a1, ⟨cj 0 (by decide), cj 1 (by decide), cj 2 (by decide), cj 3 (by decide), cj 4 (by decide), cj 5 (by decide)⟩⟩, hr, wk, wkd⟩
  obtain ⟨f, hf⟩ := skolem hE
  refine ⟨s, (List.range len).map f, by rw [List.length_map, List.length_range]; exact hc, ⟨⟨b, o, by rw [List.length_map, List.length_range]; exact hs, fun j x hj => ?_⟩, fun x hx => ?_, by rw [List.length_map, List.length_range]; omega⟩⟩
  · obtain ⟨h1, rfl⟩ := ofFn_get hj
    exact (hf j h1).1
  · obtain ⟨j, hj⟩ := List.getElem?_of_mem hx
    obtain ⟨h1, rfl⟩ := ofFn_get hj
    exact (hf j h1).2
end
end Go.Proofs.Ytohajcflklejjaa
namespace Go.Proofs.Ytohajcflklejjaa
open Go.ChangeShapes Go.WideShapes Go.ChangeAt Go.RowKit
set_option linter.unusedVariables false
theorem trodAll_stays {H : Type} {enc : TypeId × Value → H} {P : Program} (hl : laidOutB P = true) {W W' : World} (hx : Below W.heap.size W W') (sp' : Nat → Bool) :
    ∀ {ts : List TypeId} {vs : List Value} {ds : List (DataW H)} {ps : List MemPlace}, (∀ t ∈ ts, P.readableRec t = true ∧ t < P.types.size) → DataW.TrodAll enc P W 0 (fun _ => true) true ts vs ds ps →
      (∀ p ∈ ps, p.block < W.heap.size) → (∀ p ∈ ps, sp' p.block = true) → DataW.TrodAll enc P W' 0 sp' true ts vs ds ps
  | [], vs, ds, ps, _, h, _, _ => by
    obtain ⟨rfl, rfl, rfl⟩ := trodAll_nil h
    exact rfl
  | t :: ts, vs, ds, ps, hr, h, hb, hs => by
    obtain ⟨v0, vs0, d0, ds0, p0, q0, rfl, rfl, rfl, h0, r0⟩ := trodAll_cons h
    refine ⟨p0, q0, Go.WideElems.Trod_stays hl (hr t (List.mem_cons_self ..)).1 (hr t (List.mem_cons_self ..)).2 h0 (fun p hp => ?_) (fun p hp => hs p (List.mem_append_left _ hp)),
      trodAll_stays hl hx sp' (fun t ht => hr t (List.mem_cons_of_mem _ ht)) r0 (fun p hp => hb p (List.mem_append_right _ hp)) (fun p hp => hs p (List.mem_append_right _ hp)), rfl⟩
    have hlt := hb p (List.mem_append_left _ hp)
    cases p with
    | cell b o => exact hx.cell (p := ⟨b, o, none⟩) hlt
    | map b => exact hx.block b hlt
end Go.Proofs.Ytohajcflklejjaa
namespace Go.Proofs.Ytohajcflklejjaa
open Go.RowKit
set_option linter.unusedVariables false
set_option linter.unusedSimpArgs false
theorem Vals.agree' {w w' : World} {F : Nat → Prop} {xs : List LE} (h : Vals w F xs) (ha : Agree F w w') : Vals w' F xs := fun x hx => ⟨(h x hx).1.agree ha, (h x hx).2⟩
structure OV (w : World) (base : Nat) (F : Nat → Prop) (s : Sl) (xs : List LE) : Prop where
  own : w.ownsRow base 63 7 (.slice s.a xs.length s.c) xs.length (flatE xs)
  vals : Vals w F xs
  few : xs.length * 104 ≤ 140737488355328
theorem OV.nil (w : World) (base : Nat) (F : Nat → Prop) : OV w base F Sl.none [] := ⟨World.ownsRow_nil _ _ _ _, fun x h => by simp at h, by simp⟩
theorem OV.append {w w' : World} {base : Nat} {F : Nat → Prop} {s s' : Sl} {xs ys : List LE} (hF : ∀ b, F b → b < base) (hb : base ≤ w.heap.size) (ho : OV w base F s xs) (hv : Vals w F ys) (hf : (xs.length + ys.length) * 104 ≤ 140737488355328)
    (hown : w'.ownsRow base 63 7 (.slice s'.a (xs.length + ys.length) s'.c) (xs.length + ys.length) (flatE xs ++ flatE ys)) (hwr : Wr w w' s.row) : OV w' base F s' (xs ++ ys) := by
  have hag : Agree F w w' := hwr.agree (fun i hi => Nat.lt_of_lt_of_le (hF i hi) hb) (fun k hk hFk => by have := (own_row ho.own hk).1; have := hF k hFk; omega)
  refine ⟨by rw [List.length_append, flatE_app]; exact hown, fun x hx => ?_, by rw [List.length_append]; exact hf⟩
  rcases List.mem_append.1 hx with hx | hx
  · exact ⟨(ho.vals x hx).1.agree hag, (ho.vals x hx).2⟩
  · exact ⟨(hv x hx).1.agree hag, (hv x hx).2⟩
theorem OV.agree {w w' : World} {base : Nat} {F G : Nat → Prop} {s : Sl} {xs : List LE} (ho : OV w base F s xs) (ha : Agree G w w') (hF : ∀ b, F b → G b) (hr : ∀ b, s.row = some b → G b) : OV w' base F s xs :=
  ⟨own_agree ho.own ha hr, ho.vals.agree' (ha.mono hF), ho.few⟩
theorem OV.ext {w w' : World} {base : Nat} {F : Nat → Prop} {s : Sl} {xs : List LE} (ho : OV w base F s xs) (hx : Ext w w') (hF : ∀ b, F b → b < w.heap.size) : OV w' base F s xs :=
  ho.agree (hx.agree fun b (h : Lt w.heap.size b) => h) hF (fun b hb => (own_row ho.own hb).2)
theorem OV.es {w : World} {base : Nat} {F : Nat → Prop} {s : Sl} {xs : List LE} (ho : OV w base F s xs) (hF : ∀ b, F b → b < w.heap.size) : ES w (Lt w.heap.size) s xs :=
  ⟨(Rd.of_own ho.own).mono fun i hi => hi.2, fun x hx => ⟨(ho.vals x hx).1.mono hF, (ho.vals x hx).2⟩, ho.few⟩
theorem flatL_app (a b : List Sh) : flatL (a ++ b) = flatL a ++ flatL b := by simp [flatL_eq]
theorem flatL_snoc {ks : List Sh} {j : Nat} {k : Sh} (h : ks[j]? = some k) : flatL (ks.take (j + 1)) = flatL (ks.take j) ++ flatS k := by
  rw [List.take_add_one, h, flatL_app]; simp [flatL]
theorem flatL_le (ks : List Sh) (j : Nat) : (flatL (ks.take j)).length ≤ (flatL ks).length := by
  conv => rhs; rw [← List.take_append_drop j ks, flatL_app, List.length_append]
  omega
theorem flatL_kid {ks : List Sh} {j : Nat} {k : Sh} (h : ks[j]? = some k) : (flatL (ks.take j)).length + (flatS k).length ≤ (flatL ks).length := by
  have := flatL_le ks (j + 1)
  rw [flatL_snoc h, List.length_append] at this
  exact this
def FlatPost (F : Nat → Prop) (es : List Ent) (w : World) (e : Ending) (w' : World) : Prop :=
  ∃ (s : Sl) (xs : List LE), e = .returned (.slice s.a xs.length s.c) ∧ xs.map LE.ent = es ∧ Rd w' (Lt w'.heap.size) 7 s xs.length (flatE xs) ∧ Vals w' F xs ∧ xs.length * 104 ≤ 140737488355328 ∧ Ext w w'
set_option maxRecDepth 100000 in
set_option maxHeartbeats 1000000 in
theorem flat06 (m : Nat) : ∀ (d : Sh), SizeOf.sizeOf d ≤ m → (flatS d).length ≤ 1000000 → ∀ (w : World) (F : Nat → Prop) (se sk : Sl), (∀ b, F b → b < w.heap.size) → RS w F d se sk →
    Calls Try.prog 9 #[aggS d se sk] w (FlatPost F (flatS d) w) := by
  induction m with
  | zero => intro d hd; have := Sh.sz_pos d; omega
  | succ m ih =>
  intro d hd hlen w F se sk hF h
  obtain ⟨es, ks⟩ := d
  obtain ⟨i0, hi, hz0, hz1, hz2⟩ := info_parts Try.infoEntry
  cases h with
  | mk xs bk fk c hx he hs ce re few =>
  by_cases h0 : ks = []
  · subst h0 hx
    have HE := Lib.hid he
    clear he ce re hs ih hlen hd
    show Calls _ _ #[.agg #[.slice se.a (xs.map LE.ent).length se.c, .slice sk.a 0 sk.c]] _ _
    rw [List.length_map]
    go_enter Try.func9, Try.ntmps9
    go_wp2_with fail
    go_ret
    have hx1 : Ext w (w.alloc (.cells #[.slice se.a xs.length se.c, .slice sk.a 0 sk.c] 25)) := (Ext.refl w).alloc _ _
    have hag : Agree F w _ := hx1.agree hF
    exact ⟨se, xs, rfl, by simp [flatS], ((HE.out.rd).agree hag).mono fun i hi => Nat.lt_of_lt_of_le (hF i hi) hx1.size, HE.out.vals.agree' hag, HE.out.few, hx1⟩
  · have hpos : 0 < ks.length := List.length_pos_iff.2 h0
    have hfl : flatS (.mk es ks) = flatL ks := by
      have : ks.isEmpty = false := by simpa using h0
      simp [flatS, this]
    rw [hfl] at hlen ⊢
    obtain ⟨ska, skc⟩ := sk
    obtain ⟨rfl, hkc, hkm⟩ := hs.eq hpos
    have hbF := hs.fits hpos
    have lb : bk < w.heap.size := hF _ hbF
    have hle : ((ks.length : Int) == 0) = false := beq_eq_false_iff_ne.2 (by omega)
    have hx0 : Ext w (w.alloc (.cells #[.slice se.a es.length se.c, .slice (some ⟨bk, fk, none⟩) ks.length skc] 25)) := (Ext.refl w).alloc _ _
    have hb0 := Blk.new w 25 #[.slice se.a es.length se.c, .slice (some ⟨bk, fk, none⟩) ks.length skc]
    have hszk : ∀ (j : Nat) (k : Sh), ks[j]? = some k → SizeOf.sizeOf k ≤ m := fun j k hj => Nat.le_of_lt_succ (Nat.lt_of_lt_of_le (Sh.sz_k hj) hd)
    have HSZ := Lib.hid hszk
    have HIH := Lib.hid ih
    have HF := Lib.hid hF
    have HCE := Lib.hid ce
    have HRE := Lib.hid re
    have HX0 := Lib.hid hx0
    have HB0 := Lib.hid hb0
    clear hszk ih hF ce re he hs hx hd h0 hfl hx0 hb0
    show Calls _ _ #[.agg #[.slice se.a es.length se.c, .slice (some ⟨bk, fk, none⟩) ks.length skc]] _ _
    go_enter Try.func9, Try.ntmps9
    go_wp2_with fail
    go_loopw [3, 4] (fun v i wr => ∃ (j : Nat) (s : Sl) (ys : List LE), j ≤ ks.length ∧ i = .int .i64 j ∧ v = .slice s.a ys.length s.c ∧ ys.map LE.ent = flatL (ks.take j) ∧ OV wr (w.heap.size + 1) F s ys ∧ Blk wr w.heap.size 25 #[.slice se.a es.length se.c, .slice (some ⟨bk, fk, none⟩) ks.length skc] ∧ Ext w wr)
      (fun _ i _ => ks.length - (intOf i).toNat)
    case atStart => exact ⟨0, Sl.none, [], Nat.zero_le _, rfl, rfl, rfl, OV.nil _ _ _, HB0.out, HX0.out⟩
    case round =>
      obtain ⟨j, s, ys, hj, rfl, rfl, hys, ho, hB, hX⟩ := hrel
      have hyl : ys.length ≤ 1000000 := by
        have h1 := flatL_le ks j
        rw [← hys, List.length_map] at h1
        omega
      have HYS := Lib.hid hys
      have HO := Lib.hid ho
      have HB := Lib.hid hB
      have HX := Lib.hid hX
      have lB := hB.lt
      have hws := hX.size
      by_cases hlt : j < ks.length
      · obtain ⟨kid, hkid⟩ : ∃ kid, ks[j]? = some kid := ⟨_, List.getElem?_eq_getElem hlt⟩
        have g1 : (j : Int) < (ks.length : Int) := by omega
        have c1 : wr.cell? ⟨w.heap.size, 1, none⟩ = some (.slice (some ⟨bk, fk, none⟩) ks.length skc) := hB.cell 1
        have hag : Agree F w wr := hX.agree HF.out
        obtain ⟨k0, k1⟩ := (HCE.out j kid hkid).agree hag hbF
        have hkl := flatL_kid hkid
        rw [← hys, List.length_map] at hkl
        have hcall := HIH.out kid (HSZ.out j kid hkid) (by omega) wr F _ _ (fun b hb => Nat.lt_of_lt_of_le (HF.out b hb) hws) ((HRE.out j kid hkid).agree hag)
        have HKID := Lib.hid hkid
        clear hys ho hB hX hkid hag
        go_wp2_with fail
        refine hcall.mono ?_
        rintro e w2 ⟨sy, zs, rfl, hzs, hrd, hvl, hfew2, hx2⟩
        have hzl : zs.length = (flatS kid).length := by rw [← hzs, List.length_map]
        have h63 : ys.length + zs.length ≤ maxLen := by unfold maxLen; omega
        have hby : (ys.length + zs.length) * 104 ≤ 140737488355328 := by omega
        have hws2 := hx2.size
        have hb2 : w.heap.size + 1 ≤ w2.heap.size := by omega
        have HO2 := Lib.hid (HO.out.ext hx2 fun b hb => Nat.lt_of_lt_of_le (HF.out b hb) hws)
        have HB2 := Lib.hid (HB.out.ext hx2)
        have HX2 := Lib.hid (HX.out.trans hx2)
        have HRD := Lib.hid hrd
        have HVL := Lib.hid hvl
        have HZS := Lib.hid hzs
        clear hx2 hrd hvl hzs hzl hcall c1 k0 k1
        go_wp2_with (at_builtin; refine wpList_append_x _ rfl (.tmp 18) (.tmp 24) 22 rfl (w.heap.size + 1) 63 i0 _ 7 104 Try.underlying22 hi hz0 hz1 hz2 rfl (by decide) s ys.length (flatE ys) rfl HO2.out.own (Lt w2.heap.size) sy zs.length (flatE zs) rfl HRD.out (flatE_one zs) h63 hby hb2 ?_; intro s' w3 hown hwr hs')
        have hrow : ∀ b, s.row = some b → w.heap.size + 1 ≤ b ∧ b < w2.heap.size := fun b hb => own_row HO2.out.own hb
        have ho3 : OV w3 (w.heap.size + 1) F s' (ys ++ zs) := OV.append (fun b hb => by have := HF.out b hb; omega) hb2 HO2.out HVL.out hby hown hwr
        have hB3 : Blk w3 w.heap.size 25 #[.slice se.a es.length se.c, .slice (some ⟨bk, fk, none⟩) ks.length skc] := HB2.out.agree (hwr.agree (F := fun b => b = w.heap.size) (fun i hi => by omega) (fun k hk e => by have := hrow k hk; omega)) rfl
        have hX3 : Ext w w3 := HX2.out.wr hwr (fun i hi => by have := hrow i hi; omega)
        have HO3 := Lib.hid ho3
        have HB3 := Lib.hid hB3
        have HX3 := Lib.hid hX3
        clear ho3 hB3 hX3 hown hwr hs' hrow
        go_roundw
        case rel => exact ⟨j + 1, s', ys ++ zs, hlt, by go_num, by rw [List.length_append], by rw [List.map_append, HYS.out, HZS.out, flatL_snoc HKID.out], HO3.out, HB3.out, HX3.out⟩
        case measure => simp [intOf]; omega
      · have g1 : ¬ (j : Int) < (ks.length : Int) := by omega
        obtain rfl : j = ks.length := by omega
        have c1 : wr.cell? ⟨w.heap.size, 1, none⟩ = some (.slice (some ⟨bk, fk, none⟩) ks.length skc) := hB.cell 1
        clear hys ho hB hX
        go_wp2_with fail
        go_ret
        refine ⟨s, ys, rfl, by rw [HYS.out, List.take_length], (Rd.of_own HO.out.own).mono fun i hi => hi.2, HO.out.vals, HO.out.few, HX.out⟩
end Go.Proofs.Ytohajcflklejjaa
namespace Go.Proofs.Ytohajcflklejjaa
open Go.RowKit
set_option linter.unusedVariables false
set_option linter.unusedSimpArgs false
theorem soundL_drop {ks : List Sh} {j : Nat} {k : Sh} (h : ks[j]? = some k) : soundL (ks.drop j) = (soundS false k && soundL (ks.drop (j + 1))) := by
  obtain ⟨h1, rfl⟩ := List.getElem?_eq_some_iff.1 h
  rw [List.drop_eq_getElem_cons h1, soundL]
set_option maxRecDepth 100000 in
set_option maxHeartbeats 1000000 in
theorem sound06 (m : Nat) : ∀ (d : Sh), SizeOf.sizeOf d ≤ m → ∀ (root : Bool) (w : World) (se sk : Sl), RS w (Lt w.heap.size) d se sk →
    Calls Try.prog 8 #[aggS d se sk, .bool root] w fun e w' => e = .returned (.bool (soundS root d)) ∧ Ext w w' := by
  induction m with
  | zero => intro d hd; have := Sh.sz_pos d; omega
  | succ m ih =>
  intro d hd root w se sk h
  obtain ⟨es, ks⟩ := d
  have hfw := h.few
  obtain ⟨hfk, hfe⟩ := hfw
  dsimp only [Sh.ks, Sh.es] at hfk hfe
  cases h with
  | mk xs bk fk c hx he hs ce re few =>
  have hx0 : Ext w (w.alloc (.cells #[.slice se.a es.length se.c, .slice sk.a ks.length sk.c] 25)) := (Ext.refl w).alloc _ _
  have hb0 := Blk.new w 25 #[.slice se.a es.length se.c, .slice sk.a ks.length sk.c]
  have hszk : ∀ (j : Nat) (k : Sh), ks[j]? = some k → SizeOf.sizeOf k ≤ m := fun j k hj => Nat.le_of_lt_succ (Nat.lt_of_lt_of_le (Sh.sz_k hj) hd)
  have hsd : soundS root (.mk es ks) = ((root || decide (4 ≤ es.length + ks.length)) && soundL ks) := by simp [soundS]
  rw [hsd]
  have HSZ := Lib.hid hszk
  have HIH := Lib.hid ih
  have HCE := Lib.hid ce
  have HRE := Lib.hid re
  have HS := Lib.hid hs
  have HX0 := Lib.hid hx0
  have HB0 := Lib.hid hb0
  clear hszk ih ce re he hs hx hd hsd hx0 hb0
  show Calls _ _ #[.agg #[.slice se.a es.length se.c, .slice sk.a ks.length sk.c], .bool root] _ _
  have hcase : (root = false ∧ es.length + ks.length < 4) ∨ ((root || decide (4 ≤ es.length + ks.length)) = true ∧ (root = true ∨ (root = false ∧ ¬ (es.length : Int) + (ks.length : Int) < 4))) := by
    by_cases hr : root = true
    · exact .inr ⟨by rw [hr]; rfl, .inl hr⟩
    · by_cases h4 : es.length + ks.length < 4
      · exact .inl ⟨by simpa using hr, h4⟩
      · exact .inr ⟨by rw [decide_eq_true (by omega)]; simp, .inr ⟨by simpa using hr, by omega⟩⟩
  rcases hcase with ⟨rfl, h4⟩ | ⟨hT, hor⟩
  · have g4 : (es.length : Int) + (ks.length : Int) < 4 := by omega
    have hF : (false || decide (4 ≤ es.length + ks.length)) = false := by simp; omega
    rw [hF]
    clear hF
    go_enter Try.func8, Try.ntmps8
    go_wp2_with fail
    go_ret
    exact ⟨rfl, HX0.out⟩
  · rw [hT, Bool.true_and]
    clear hT
    rcases hor with rfl | ⟨rfl, g4⟩
    all_goals
      go_enter Try.func8, Try.ntmps8
      go_wp2_with fail
      go_loopw [6] (fun i wr => ∃ (j : Nat), j ≤ ks.length ∧ i = .int .i64 j ∧ soundL ks = soundL (ks.drop j) ∧ Blk wr w.heap.size 25 #[.slice se.a es.length se.c, .slice sk.a ks.length sk.c] ∧ Ext w wr)
        (fun i _ => ks.length - (intOf i).toNat)
      case atStart => exact ⟨0, Nat.zero_le _, rfl, rfl, HB0.out, HX0.out⟩
      case round =>
        obtain ⟨j, hj, rfl, hp, hB, hX⟩ := hrel
        have HP := Lib.hid hp
        have HB := Lib.hid hB
        have HX := Lib.hid hX
        have c1 : wr.cell? ⟨w.heap.size, 1, none⟩ = some (.slice sk.a ks.length sk.c) := hB.cell 1
        by_cases hlt : j < ks.length
        · obtain ⟨kid, hkid⟩ : ∃ kid, ks[j]? = some kid := ⟨_, List.getElem?_eq_getElem hlt⟩
          have g1 : (j : Int) < (ks.length : Int) := by omega
          obtain ⟨ska, skc⟩ := sk
          obtain ⟨rfl, hkc, hkm⟩ := HS.out.eq (by omega)
          have hag : Agree (Lt w.heap.size) w wr := hX.agree fun _ h => h
          obtain ⟨k0, k1⟩ := (HCE.out j kid hkid).agree hag (HS.out.fits (by omega))
          have hcall := HIH.out kid (HSZ.out j kid hkid) false wr _ _ (((HRE.out j kid hkid).agree hag).mono fun i hi => Nat.lt_of_lt_of_le hi hX.size)
          have HD := Lib.hid (soundL_drop hkid)
          clear hp hB hX hkid hag
          cases hk : soundS false kid with
          | true =>
            rw [hk] at hcall
            have HK := Lib.hid hk
            clear hk
            go_wp2_with fail
            refine hcall.mono ?_
            rintro e w2 ⟨rfl, hx2⟩
            have HB2 := Lib.hid (HB.out.ext hx2)
            have HX2 := Lib.hid (HX.out.trans hx2)
            clear hx2 hcall
            go_wp2_with fail
            go_roundw
            case rel => exact ⟨j + 1, hlt, by go_num, by rw [HP.out, HD.out, HK.out, Bool.true_and], HB2.out, HX2.out⟩
            case measure => simp [intOf]; omega
          | false =>
            rw [hk] at hcall
            have HK := Lib.hid hk
            clear hk
            go_wp2_with fail
            refine hcall.mono ?_
            rintro e w2 ⟨rfl, hx2⟩
            have HX2 := Lib.hid (HX.out.trans hx2)
            clear hx2 hcall
            go_wp2_with fail
            go_ret
            rw [HP.out, HD.out, HK.out, Bool.false_and]
            exact ⟨rfl, HX2.out⟩
        · have g1 : ¬ (j : Int) < (ks.length : Int) := by omega
          obtain rfl : j = ks.length := by omega
          clear hp hB hX
          go_wp2_with fail
          go_ret
          rw [HP.out, List.drop_length, soundL]
          exact ⟨rfl, HX.out⟩
end Go.Proofs.Ytohajcflklejjaa
namespace Go.Proofs.Ytohajcflklejjaa
open Go.RowKit
set_option linter.unusedVariables false
set_option linter.unusedSimpArgs false
mutual
theorem mayS_flat : ∀ d : Sh, mayS d = true → (flatS d).length ≤ 8 * nodesS d
  | .mk es [], h => by
    simp only [mayS, flatS, List.isEmpty_nil, if_true, Bool.and_eq_true, decide_eq_true_eq, nodesS, nodesL] at h ⊢
    omega
  | .mk es (k :: ks), h => by
    simp only [mayS, flatS, List.isEmpty_cons, Bool.false_eq_true, if_false, Bool.and_eq_true, nodesS] at h ⊢
    have := mayL_flat (k :: ks) _ h.1.2
    omega
theorem mayL_flat : ∀ (ks : List Sh) (H : Nat), mayL H ks = true → (flatL ks).length ≤ 8 * nodesL ks
  | [], _, _ => by simp [flatL]
  | k :: ks, H, h => by
    simp only [mayL, Bool.and_eq_true] at h
    have h1 := mayS_flat k h.1.1.1
    have h2 := mayL_flat ks H h.2
    simp only [flatL, nodesL, List.length_append]
    omega
end
mutual
theorem height_nodes : ∀ d : Sh, heightS d < nodesS d
  | .mk es ks => by
    have := heightL_nodes ks
    simp only [heightS, nodesS]
    omega
theorem heightL_nodes : ∀ ks : List Sh, heightL ks ≤ nodesL ks
  | [] => by simp [heightL]
  | k :: ks => by
    have := height_nodes k
    simp only [heightL, nodesL]
    omega
end
theorem nodesL_mem : ∀ {ks : List Sh} {k : Sh}, k ∈ ks → nodesS k ≤ nodesL ks
  | [], k, h => by cases h
  | a :: ks, k, h => by
    simp only [nodesL]
    rcases List.mem_cons.1 h with rfl | h
    · omega
    · have := nodesL_mem h; omega
theorem mayL_drop {H : Nat} {ks : List Sh} {j : Nat} {k : Sh} (h : ks[j]? = some k) : mayL H (ks.drop j) = (mayS k && decide (0 < (flatS k).length) && decide (heightS k = H) && mayL H (ks.drop (j + 1))) := by
  obtain ⟨h1, rfl⟩ := List.getElem?_eq_some_iff.1 h
  rw [List.drop_eq_getElem_cons h1, mayL]
theorem risesE_drop {l : List Ent} {q : Nat} {a b : Ent} (ha : l[q]? = some a) (hb : l[q + 1]? = some b) : risesE (l.drop q) = (klt a.1 b.1 && risesE (l.drop (q + 1))) := by
  obtain ⟨h1, rfl⟩ := List.getElem?_eq_some_iff.1 ha
  obtain ⟨h2, rfl⟩ := List.getElem?_eq_some_iff.1 hb
  rw [List.drop_eq_getElem_cons h1, List.drop_eq_getElem_cons h2, risesE]
theorem risesE_end {l : List Ent} {q : Nat} (h : l.length ≤ q + 1) : risesE (l.drop q) = true := by
  have hl : (l.drop q).length ≤ 1 := by rw [List.length_drop]; omega
  match l.drop q, hl with
  | [], _ => rfl
  | [_], _ => rfl
set_option maxRecDepth 100000 in
set_option maxHeartbeats 4000000 in
theorem may06 (m : Nat) : ∀ (d : Sh), SizeOf.sizeOf d ≤ m → nodesS d ≤ 100000 → ∀ (w : World) (se sk : Sl), RS w (Lt w.heap.size) d se sk →
    Calls Try.prog 7 #[aggS d se sk] w fun e w' => e = .returned (.bool (mayS d)) ∧ Ext w w' := by
  induction m with
  | zero => intro d hd; have := Sh.sz_pos d; omega
  | succ m ih =>
  intro d hd hnod w se sk h
  have hflat : (flatS d).length ≤ 1000000 → ∀ W, Ext w W → Calls Try.prog 9 #[aggS d se sk] W (FlatPost (Lt W.heap.size) (flatS d) W) := fun hl W hW => flat06 _ d (Nat.le_refl _) hl W _ se sk (fun _ h => h) (h.ext hW)
  have HFL := Lib.hid hflat
  clear hflat
  obtain ⟨es, ks⟩ := d
  obtain ⟨hfk, hfe⟩ := h.few
  dsimp only [Sh.ks, Sh.es] at hfk hfe
  cases h with
  | mk xs0 bk fk c hx he hs ce re few =>
  have hx0 : Ext w (w.alloc (.cells #[.slice se.a es.length se.c, .slice sk.a ks.length sk.c] 25)) := (Ext.refl w).alloc _ _
  have hb0 := Blk.new w 25 #[.slice se.a es.length se.c, .slice sk.a ks.length sk.c]
  have hszk : ∀ (j : Nat) (k : Sh), ks[j]? = some k → SizeOf.sizeOf k ≤ m := fun j k hj => Nat.le_of_lt_succ (Nat.lt_of_lt_of_le (Sh.sz_k hj) hd)
  have HSZ := Lib.hid hszk
  have HIH := Lib.hid ih
  have HCE := Lib.hid ce
  have HRE := Lib.hid re
  have HS := Lib.hid hs
  have HX0 := Lib.hid hx0
  have HB0 := Lib.hid hb0
  clear hszk ih ce re he hs hx hd hx0 hb0 few
  by_cases h0 : ks = []
  · subst h0
    have hd : mayS (.mk es []) = (decide (es.length ≤ 8) && risesE (flatS (.mk es []))) := by simp [mayS]
    by_cases h8 : es.length ≤ 8
    · have g8 : ¬ (8 : Int) < (es.length : Int) := by omega
      rw [decide_eq_true h8, Bool.true_and] at hd
      have HM := Lib.hid hd
      have hcf := HFL.out (by simp [flatS]; omega)
      have HCF := Lib.hid hcf
      clear hd hcf h8
      show Calls _ _ #[.agg #[.slice se.a es.length se.c, .slice sk.a 0 sk.c]] _ _
      go_enter Try.func7, Try.ntmps7
      go_wp2_with fail
      obtain ⟨wr, hwr⟩ : ∃ wr, w.alloc (.cells #[.slice se.a es.length se.c, .slice sk.a 0 sk.c] 25) = wr := ⟨_, rfl⟩
      have hX : Ext w wr := by rw [← hwr]; exact HX0.out
      rw [hwr]
      have HX := Lib.hid hX
      clear hwr hX
      refine (HCF.out _ HX.out).mono ?_
      rintro e w2 ⟨s, xs, rfl, hxs, hrd, hvl, hfw, hx2⟩
      have HX2 := Lib.hid (HX.out.trans hx2)
      have HES := Lib.hid (show ES w2 (Lt w2.heap.size) s xs from ⟨hrd, fun x hx => ⟨(hvl x hx).1.mono fun i hi => Nat.lt_of_lt_of_le hi hx2.size, (hvl x hx).2⟩, hfw⟩)
      have HXS := Lib.hid hxs
      have hnl : xs.length ≤ 140737488355328 := by omega
      clear hx2 hrd hvl hxs
      go_wp2_with fail
      go_loopw [5] (fun i wr => ∃ q : Nat, i = .int .i64 ((q : Int) + 1) ∧ (q = 0 ∨ q + 1 ≤ xs.length) ∧ risesE (xs.map LE.ent) = risesE ((xs.map LE.ent).drop q) ∧ Ext w2 wr) (fun i _ => xs.length - (intOf i).toNat)
      case atStart => exact ⟨0, rfl, .inl rfl, rfl, Ext.refl w2⟩
      case round =>
        obtain ⟨q, rfl, hq, hp2, hX2⟩ := hrel
        have HP2 := Lib.hid hp2
        have HXX := Lib.hid hX2
        by_cases hlt2 : q + 1 < xs.length
        · have g3 : (q : Int) + 1 < (xs.length : Int) := by omega
          obtain ⟨x, hxx⟩ : ∃ x, xs[q]? = some x := ⟨_, List.getElem?_eq_getElem (by omega)⟩
          obtain ⟨y, hyy⟩ : ∃ y, xs[q + 1]? = some y := ⟨_, List.getElem?_eq_getElem hlt2⟩
          have HDD := Lib.hid (risesE_drop (l := xs.map LE.ent) (q := q) (a := x.ent) (b := y.ent) (by rw [List.getElem?_map, hxx]; rfl) (by rw [List.getElem?_map, hyy]; rfl))
          have e1 := HES.out.ext hX2
          obtain ⟨g, o, hg, lg, hc, hcm, kx, -, -, -⟩ := e1.at hxx
          obtain ⟨g', o', hg', -, -, -, ky, -, -, -⟩ := e1.at hyy
          rw [hg] at hg'
          obtain ⟨rfl, rfl⟩ : g = g' ∧ o = o' := by simpa using hg'
          obtain ⟨sa, sc⟩ := s
          dsimp only at hg hc hcm
          subst hg
          have lg : g < wr.heap.size := lg
          have hw1 : IntKind.i64.wrap ((q : Int) + 1 - 1) = (q : Int) := by rw [IntKind.wrap_i64]; omega
          have hw0 : IntKind.i64.wrap (q : Int) = (q : Int) := by rw [IntKind.wrap_i64]; omega
          have htn : ((q : Int) + 1).toNat = q + 1 := by omega
          have hq0 : (0 : Int) ≤ (q : Int) + 1 := by omega
          have hq1 : (q : Int) < (xs.length : Int) := by omega
          have HSK := Lib.hid (show ∀ W, Ext wr W → W.cell? ⟨g, o + q * 7, none⟩ = some (.string x.k) ∧ W.cell? ⟨g, o + (q + 1) * 7, none⟩ = some (.string y.k) from fun W hW => ⟨(hW.cell lg).trans kx, (hW.cell lg).trans ky⟩)
          clear hp2 hX2 hxx hyy e1 hg' kx ky hq
          cases hkl : klt x.k y.k with
          | true =>
            have hb1 : Op.bytesLess x.k.toList y.k.toList = true := hkl
            have HKL := Lib.hid hkl
            clear hkl
            go_wp2_with fail
            refine wp_region_held_drew (S := (fun w' => Ext wr w')) (by kernel_rfl) (((Ext.refl wr).drew)) (fun hHeld => ?_)
            refine held_on (i := 0) (d := (some 76)) (v := ?_) rfl rfl (by kernel_rfl) (by kernel_rfl) (by kernel_rfl) (fun _ _ _ h => h) (by rfl) hHeld ?_ ?_
            rotate_left
            focus (intro w hSw; have hSc := HSK.out w hSw; clear hSw; go_simp; first | done | with_reducible rfl)
            try simp only [Act.put, List.setIfInBounds_toArray, List.set_cons_zero, List.set_cons_succ]
            refine held_on (i := 1) (d := (some 77)) (v := ?_) rfl rfl (by kernel_rfl) (by kernel_rfl) (by kernel_rfl) (fun _ _ _ h => h) (by rfl) hHeld ?_ ?_
            rotate_left
            focus (intro w hSw; have hSc := HSK.out w hSw; clear hSw; go_simp; first | done | with_reducible rfl)
            try simp only [Act.put, List.setIfInBounds_toArray, List.set_cons_zero, List.set_cons_succ]
            refine held_on (i := 2) (d := (some 78)) (v := ?_) rfl rfl (by kernel_rfl) (by kernel_rfl) (by kernel_rfl) (fun _ _ _ h => h) (by rfl) hHeld ?_ ?_
            rotate_left
            focus (intro w hSw; have hSc := HSK.out w hSw; clear hSw; go_simp; first | done | with_reducible rfl)
            try simp only [Act.put, List.setIfInBounds_toArray, List.set_cons_zero, List.set_cons_succ]
            refine held_on (i := 3) (d := (some 79)) (v := ?_) rfl rfl (by kernel_rfl) (by kernel_rfl) (by kernel_rfl) (fun _ _ _ h => h) (by rfl) hHeld ?_ ?_
            rotate_left
            focus (intro w hSw; have hSc := HSK.out w hSw; clear hSw; go_simp; first | done | with_reducible rfl)
            try simp only [Act.put, List.setIfInBounds_toArray, List.set_cons_zero, List.set_cons_succ]
            refine held_on (i := 4) (d := (some 80)) (v := ?_) rfl rfl (by kernel_rfl) (by kernel_rfl) (by kernel_rfl) (fun _ _ _ h => h) (by rfl) hHeld ?_ ?_
            rotate_left
            focus (intro w hSw; have hSc := HSK.out w hSw; clear hSw; go_simp; first | done | with_reducible rfl)
            try simp only [Act.put, List.setIfInBounds_toArray, List.set_cons_zero, List.set_cons_succ]
            refine held_on (i := 5) (d := (some 81)) (v := ?_) rfl rfl (by kernel_rfl) (by kernel_rfl) (by kernel_rfl) (fun _ _ _ h => h) (by rfl) hHeld ?_ ?_
            rotate_left
            focus (intro w hSw; have hSc := HSK.out w hSw; clear hSw; go_simp; first | done | with_reducible rfl)
            try simp only [Act.put, List.setIfInBounds_toArray, List.set_cons_zero, List.set_cons_succ]
            refine held_on (i := 6) (d := (some 82)) (v := ?_) rfl rfl (by kernel_rfl) (by kernel_rfl) (by kernel_rfl) (fun _ _ _ h => h) (by rfl) hHeld ?_ ?_
            rotate_left
            focus (intro w hSw; have hSc := HSK.out w hSw; clear hSw; go_simp; first | done | with_reducible rfl)
            try simp only [Act.put, List.setIfInBounds_toArray, List.set_cons_zero, List.set_cons_succ]
            refine held_on (i := 7) (d := (some 83)) (v := ?_) rfl rfl (by kernel_rfl) (by kernel_rfl) (by kernel_rfl) (fun _ _ _ h => h) (by rfl) hHeld ?_ ?_
            rotate_left
            focus (intro w hSw; have hSc := HSK.out w hSw; clear hSw; go_simp; first | done | with_reducible rfl)
            try simp only [Act.put, List.setIfInBounds_toArray, List.set_cons_zero, List.set_cons_succ]
            refine held_on (i := 8) (d := (some 84)) (v := ?_) rfl rfl (by kernel_rfl) (by kernel_rfl) (by kernel_rfl) (fun _ _ _ h => h) (by rfl) hHeld ?_ ?_
            rotate_left
            focus (intro w hSw; have hSc := HSK.out w hSw; clear hSw; go_simp; first | done | with_reducible rfl)
            try simp only [Act.put, List.setIfInBounds_toArray, List.set_cons_zero, List.set_cons_succ]
            refine held_on (i := 9) (d := (some 85)) (v := ?_) rfl rfl (by kernel_rfl) (by kernel_rfl) (by kernel_rfl) (fun _ _ _ h => h) (by rfl) hHeld ?_ ?_
            rotate_left
            focus (intro w hSw; have hSc := HSK.out w hSw; clear hSw; go_simp; first | done | with_reducible rfl)
            try simp only [Act.put, List.setIfInBounds_toArray, List.set_cons_zero, List.set_cons_succ]
            refine held_on (i := 10) (d := (some 86)) (v := ?_) rfl rfl (by kernel_rfl) (by kernel_rfl) (by kernel_rfl) (fun _ _ _ h => h) (by rfl) hHeld ?_ ?_
            rotate_left
            focus (intro w hSw; have hSc := HSK.out w hSw; clear hSw; go_simp; first | done | with_reducible rfl)
            try simp only [Act.put, List.setIfInBounds_toArray, List.set_cons_zero, List.set_cons_succ]
            refine held_on (i := 11) (d := (some 87)) (v := ?_) rfl rfl (by kernel_rfl) (by kernel_rfl) (by kernel_rfl) (fun _ _ _ h => h) (by rfl) hHeld ?_ ?_
            rotate_left
            focus (intro w hSw; have hSc := HSK.out w hSw; clear hSw; go_simp; first | done | with_reducible rfl)
            try simp only [Act.put, List.setIfInBounds_toArray, List.set_cons_zero, List.set_cons_succ]
            refine wpAnyH_done (by kernel_rfl) ?_ _
            have HX3 := Lib.hid (HXX.out.trans hHeld)
            clear hHeld hw1 hw0 htn hb1
            go_wp2_with fail
            go_roundw
            case rel => exact ⟨q + 1, by go_num, .inr hlt2, by rw [HP2.out, HDD.out, show klt x.ent.1 y.ent.1 = true from HKL.out, Bool.true_and], HX3.out⟩
            case measure => simp [intOf]; omega
          | false =>
            have hb1 : Op.bytesLess x.k.toList y.k.toList = false := hkl
            have HKL := Lib.hid hkl
            clear hkl
            go_wp2_with fail
            refine wp_region_held_drew (S := (fun w' => Ext wr w')) (by kernel_rfl) (((Ext.refl wr).drew)) (fun hHeld => ?_)
            refine held_on (i := 0) (d := (some 76)) (v := ?_) rfl rfl (by kernel_rfl) (by kernel_rfl) (by kernel_rfl) (fun _ _ _ h => h) (by rfl) hHeld ?_ ?_
            rotate_left
            focus (intro w hSw; have hSc := HSK.out w hSw; clear hSw; go_simp; first | done | with_reducible rfl)
            try simp only [Act.put, List.setIfInBounds_toArray, List.set_cons_zero, List.set_cons_succ]
            refine held_on (i := 1) (d := (some 77)) (v := ?_) rfl rfl (by kernel_rfl) (by kernel_rfl) (by kernel_rfl) (fun _ _ _ h => h) (by rfl) hHeld ?_ ?_
            rotate_left
            focus (intro w hSw; have hSc := HSK.out w hSw; clear hSw; go_simp; first | done | with_reducible rfl)
            try simp only [Act.put, List.setIfInBounds_toArray, List.set_cons_zero, List.set_cons_succ]
            refine held_on (i := 2) (d := (some 78)) (v := ?_) rfl rfl (by kernel_rfl) (by kernel_rfl) (by kernel_rfl) (fun _ _ _ h => h) (by rfl) hHeld ?_ ?_
            rotate_left
            focus (intro w hSw; have hSc := HSK.out w hSw; clear hSw; go_simp; first | done | with_reducible rfl)
            try simp only [Act.put, List.setIfInBounds_toArray, List.set_cons_zero, List.set_cons_succ]
            refine held_on (i := 3) (d := (some 79)) (v := ?_) rfl rfl (by kernel_rfl) (by kernel_rfl) (by kernel_rfl) (fun _ _ _ h => h) (by rfl) hHeld ?_ ?_
            rotate_left
            focus (intro w hSw; have hSc := HSK.out w hSw; clear hSw; go_simp; first | done | with_reducible rfl)
            try simp only [Act.put, List.setIfInBounds_toArray, List.set_cons_zero, List.set_cons_succ]
            refine held_on (i := 4) (d := (some 80)) (v := ?_) rfl rfl (by kernel_rfl) (by kernel_rfl) (by kernel_rfl) (fun _ _ _ h => h) (by rfl) hHeld ?_ ?_
            rotate_left
            focus (intro w hSw; have hSc := HSK.out w hSw; clear hSw; go_simp; first | done | with_reducible rfl)
            try simp only [Act.put, List.setIfInBounds_toArray, List.set_cons_zero, List.set_cons_succ]
            refine held_on (i := 5) (d := (some 81)) (v := ?_) rfl rfl (by kernel_rfl) (by kernel_rfl) (by kernel_rfl) (fun _ _ _ h => h) (by rfl) hHeld ?_ ?_
            rotate_left
            focus (intro w hSw; have hSc := HSK.out w hSw; clear hSw; go_simp; first | done | with_reducible rfl)
            try simp only [Act.put, List.setIfInBounds_toArray, List.set_cons_zero, List.set_cons_succ]
            refine held_on (i := 6) (d := (some 82)) (v := ?_) rfl rfl (by kernel_rfl) (by kernel_rfl) (by kernel_rfl) (fun _ _ _ h => h) (by rfl) hHeld ?_ ?_
            rotate_left
            focus (intro w hSw; have hSc := HSK.out w hSw; clear hSw; go_simp; first | done | with_reducible rfl)
            try simp only [Act.put, List.setIfInBounds_toArray, List.set_cons_zero, List.set_cons_succ]
            refine held_on (i := 7) (d := (some 83)) (v := ?_) rfl rfl (by kernel_rfl) (by kernel_rfl) (by kernel_rfl) (fun _ _ _ h => h) (by rfl) hHeld ?_ ?_
            rotate_left
            focus (intro w hSw; have hSc := HSK.out w hSw; clear hSw; go_simp; first | done | with_reducible rfl)
            try simp only [Act.put, List.setIfInBounds_toArray, List.set_cons_zero, List.set_cons_succ]
            refine held_on (i := 8) (d := (some 84)) (v := ?_) rfl rfl (by kernel_rfl) (by kernel_rfl) (by kernel_rfl) (fun _ _ _ h => h) (by rfl) hHeld ?_ ?_
            rotate_left
            focus (intro w hSw; have hSc := HSK.out w hSw; clear hSw; go_simp; first | done | with_reducible rfl)
            try simp only [Act.put, List.setIfInBounds_toArray, List.set_cons_zero, List.set_cons_succ]
            refine held_on (i := 9) (d := (some 85)) (v := ?_) rfl rfl (by kernel_rfl) (by kernel_rfl) (by kernel_rfl) (fun _ _ _ h => h) (by rfl) hHeld ?_ ?_
            rotate_left
            focus (intro w hSw; have hSc := HSK.out w hSw; clear hSw; go_simp; first | done | with_reducible rfl)
            try simp only [Act.put, List.setIfInBounds_toArray, List.set_cons_zero, List.set_cons_succ]
            refine held_on (i := 10) (d := (some 86)) (v := ?_) rfl rfl (by kernel_rfl) (by kernel_rfl) (by kernel_rfl) (fun _ _ _ h => h) (by rfl) hHeld ?_ ?_
            rotate_left
            focus (intro w hSw; have hSc := HSK.out w hSw; clear hSw; go_simp; first | done | with_reducible rfl)
            try simp only [Act.put, List.setIfInBounds_toArray, List.set_cons_zero, List.set_cons_succ]
            refine held_on (i := 11) (d := (some 87)) (v := ?_) rfl rfl (by kernel_rfl) (by kernel_rfl) (by kernel_rfl) (fun _ _ _ h => h) (by rfl) hHeld ?_ ?_
            rotate_left
            focus (intro w hSw; have hSc := HSK.out w hSw; clear hSw; go_simp; first | done | with_reducible rfl)
            try simp only [Act.put, List.setIfInBounds_toArray, List.set_cons_zero, List.set_cons_succ]
            refine wpAnyH_done (by kernel_rfl) ?_ _
            have HX3 := Lib.hid (HXX.out.trans hHeld)
            clear hHeld hw1 hw0 htn hb1
            go_wp2_with fail
            go_ret
            rw [HM.out, ← HXS.out, HP2.out, HDD.out, show klt x.ent.1 y.ent.1 = false from HKL.out]
            exact ⟨by simp, HX2.out.trans HX3.out⟩
        · have g3 : ¬ (q : Int) + 1 < (xs.length : Int) := by omega
          have hend := risesE_end (l := xs.map LE.ent) (q := q) (by rw [List.length_map]; omega)
          have HEND := Lib.hid hend
          clear hp2 hX2 hend hq
          go_wp2_with fail
          go_ret
          rw [HM.out, ← HXS.out, HP2.out, HEND.out]
          exact ⟨rfl, HX2.out.trans HXX.out⟩
    · have g8 : (8 : Int) < (es.length : Int) := by omega
      rw [decide_eq_false h8, Bool.false_and] at hd
      rw [hd]
      clear hd h8
      show Calls _ _ #[.agg #[.slice se.a es.length se.c, .slice sk.a 0 sk.c]] _ _
      go_enter Try.func7, Try.ntmps7
      go_wp2_with fail
      go_ret
      exact ⟨rfl, HX0.out⟩
  · have hpos : 0 < ks.length := List.length_pos_iff.2 h0
    have hemp : ks.isEmpty = false := by simpa using h0
    have hd : mayS (.mk es ks) = (es.isEmpty && decide (2 ≤ ks.length) && decide (ks.length ≤ 8) && mayL (heightL ks - 1) ks && risesE (flatS (.mk es ks))) := by simp [mayS, hemp]
    have hfl : flatS (.mk es ks) = flatL ks := by simp [flatS, hemp]
    have hle : ((ks.length : Int) == 0) = false := beq_eq_false_iff_ne.2 (by omega)
    obtain ⟨ska, skc⟩ := sk
    obtain ⟨hska, hkc, hkm⟩ := HS.out.eq hpos
    dsimp only at hska hkc hkm
    subst hska
    have lb : bk < w.heap.size := HS.out.fits hpos
    have HD := Lib.hid hd
    have HFLT := Lib.hid hfl
    clear hd hfl hemp h0
    show Calls _ _ #[.agg #[.slice se.a es.length se.c, .slice (some ⟨bk, fk, none⟩) ks.length skc]] _ _
    by_cases he0 : es = []
    · subst he0
      by_cases h2 : ks.length < 2
      · have g2 : (ks.length : Int) < 2 := by omega
        rw [HD.out, decide_eq_false (show ¬ 2 ≤ ks.length by omega), List.isEmpty_nil]
        clear h2
        go_enter Try.func7, Try.ntmps7
        go_wp2_with fail
        go_ret
        exact ⟨by simp, HX0.out⟩
      by_cases h8 : 8 < ks.length
      · have g2 : ¬ (ks.length : Int) < 2 := by omega
        have g8 : (8 : Int) < (ks.length : Int) := by omega
        rw [HD.out, decide_eq_false (show ¬ ks.length ≤ 8 by omega), List.isEmpty_nil]
        clear h2 h8
        go_enter Try.func7, Try.ntmps7
        go_wp2_with fail
        go_ret
        exact ⟨by simp, HX0.out⟩
      have g2 : ¬ (ks.length : Int) < 2 := by omega
      have g8 : ¬ (8 : Int) < (ks.length : Int) := by omega
      have hd2 : mayS (.mk [] ks) = (mayL (heightL ks - 1) ks && risesE (flatS (.mk [] ks))) := by
        rw [HD.out, List.isEmpty_nil, decide_eq_true (show 2 ≤ ks.length by omega), decide_eq_true (show ks.length ≤ 8 by omega)]; simp
      obtain ⟨k0, hk0⟩ : ∃ k0, ks[0]? = some k0 := ⟨_, List.getElem?_eq_getElem hpos⟩
      obtain ⟨H, hH⟩ : ∃ H, heightL ks - 1 = H := ⟨_, rfl⟩
      have hH0 : heightS k0 = H := by
        cases ks with
        | nil => simp at hpos
        | cons a l => simp at hk0; subst hk0; rw [← hH]; simp [heightL]
      rw [hH] at hd2
      have hn0 : nodesS k0 ≤ nodesL ks := nodesL_mem (List.mem_of_getElem? hk0)
      have hnl : nodesL ks + 1 ≤ 100000 := by simpa [nodesS] using hnod
      have HD2 := Lib.hid hd2
      have HK0 := Lib.hid hk0
      have HH0 := Lib.hid hH0
      have hp0 : (0 : Int) < (ks.length : Int) := by omega
      clear hd2 hk0 hH hH0 h2 h8 HD
      go_enter Try.func7, Try.ntmps7
      go_wp2_with fail
      go_loopw [3] (fun i wr => ∃ (j : Nat), j ≤ ks.length ∧ i = .int .i64 j ∧ mayL H ks = mayL H (ks.drop j) ∧ Blk wr w.heap.size 25 #[.slice se.a 0 se.c, .slice (some ⟨bk, fk, none⟩) ks.length skc] ∧ Ext w wr)
        (fun i _ => ks.length - (intOf i).toNat)
      case atStart => exact ⟨0, Nat.zero_le _, rfl, rfl, HB0.out, HX0.out⟩
      case round =>
        obtain ⟨j, hj, rfl, hp, hB, hX⟩ := hrel
        have HP := Lib.hid hp
        have HB := Lib.hid hB
        have HX := Lib.hid hX
        have lB := hB.lt
        have c1 : wr.cell? ⟨w.heap.size, 1, none⟩ = some (.slice (some ⟨bk, fk, none⟩) ks.length skc) := hB.cell 1
        by_cases hlt : j < ks.length
        · obtain ⟨kid, hkid⟩ : ∃ kid, ks[j]? = some kid := ⟨_, List.getElem?_eq_getElem hlt⟩
          have g1 : (j : Int) < (ks.length : Int) := by omega
          have hag : Agree (Lt w.heap.size) w wr := hX.agree fun _ h => h
          have hsk := (HCE.out j kid hkid).agree hag lb
          have hs0 := (HCE.out 0 k0 HK0.out).agree hag lb
          obtain ⟨a0, a1⟩ := hsk
          obtain ⟨z0, z1⟩ := hs0
          rw [Nat.zero_mul, Nat.add_zero] at z0 z1
          have lbr : bk < wr.heap.size := Nat.lt_of_lt_of_le lb hX.size
          have hnk : nodesS kid ≤ nodesL ks := nodesL_mem (List.mem_of_getElem? hkid)
          have hrk : ∀ W, Ext wr W → RS W (Lt W.heap.size) kid (c j).1 (c j).2 := fun W hW => (((HRE.out j kid hkid).agree hag).mono fun i hi => Nat.lt_of_lt_of_le hi hX.size).ext hW
          have hr0 : ∀ W, Ext wr W → RS W (Lt W.heap.size) k0 (c 0).1 (c 0).2 := fun W hW => (((HRE.out 0 k0 HK0.out).agree hag).mono fun i hi => Nat.lt_of_lt_of_le hi hX.size).ext hW
          have hcm : ∀ W, Ext wr W → Calls Try.prog 7 #[aggS kid (c j).1 (c j).2] W fun e w' => e = .returned (.bool (mayS kid)) ∧ Ext W w' := fun W hW => HIH.out kid (HSZ.out j kid hkid) (by omega) W _ _ (hrk W hW)
          have hcf : mayS kid = true → ∀ W, Ext wr W → Calls Try.prog 9 #[aggS kid (c j).1 (c j).2] W (FlatPost (Lt W.heap.size) (flatS kid) W) := fun hm W hW => flat06 _ kid (Nat.le_refl _) (by have := mayS_flat kid hm; omega) W _ _ _ (fun _ h => h) (hrk W hW)
          have hch : ∀ W, Ext wr W → Calls Try.prog 21 #[aggS kid (c j).1 (c j).2] W fun e w' => e = .returned (.int .i64 (heightS kid)) ∧ Ext W w' := fun W hW => height06 _ kid W _ _ rfl (by have := height_nodes kid; omega) (hrk W hW)
          have hc0 : ∀ W, Ext wr W → Calls Try.prog 21 #[aggS k0 (c 0).1 (c 0).2] W fun e w' => e = .returned (.int .i64 (heightS k0)) ∧ Ext W w' := fun W hW => height06 _ k0 W _ _ rfl (by have := height_nodes k0; omega) (hr0 W hW)
          have HSS := Lib.hid (show ∀ W, Ext wr W → W.cell? ⟨w.heap.size, 1, none⟩ = some (.slice (some ⟨bk, fk, none⟩) ks.length skc) ∧ W.cell? ⟨bk, fk + j * 2, none⟩ = some (.slice (c j).1.a kid.es.length (c j).1.c) ∧ W.cell? ⟨bk, fk + j * 2 + 1, none⟩ = some (.slice (c j).2.a kid.ks.length (c j).2.c) ∧ W.cell? ⟨bk, fk, none⟩ = some (.slice (c 0).1.a k0.es.length (c 0).1.c) ∧ W.cell? ⟨bk, fk + 1, none⟩ = some (.slice (c 0).2.a k0.ks.length (c 0).2.c) from
            fun W hW => ⟨(hW.cell lB).trans c1, (hW.cell lbr).trans a0, (hW.cell lbr).trans a1, (hW.cell lbr).trans z0, (hW.cell lbr).trans z1⟩)
          have HDR := Lib.hid (mayL_drop (H := H) hkid)
          have HCM := Lib.hid hcm
          have HCF := Lib.hid hcf
          have HCH := Lib.hid hch
          have HC0 := Lib.hid hc0
          clear hp hB hX hkid hag hrk hr0 hcm hcf hch hc0 a0 a1 z0 z1
          cases hm : mayS kid with
          | false =>
            rw [hm] at HCM HDR
            have HMM := Lib.hid hm
            clear hm HCF
            go_wp2_with fail
            clear c1
            refine wp_region_held_drew (S := (fun w' => Ext wr w')) (by kernel_rfl) (((Ext.refl wr).drew)) (fun hHeld => ?_)
            refine held_on (i := 0) (d := (some 37)) (v := ?_) rfl rfl (by kernel_rfl) (by kernel_rfl) (by kernel_rfl) (fun _ _ _ h => h) (by rfl) hHeld ?_ ?_
            rotate_left
            focus (intro w hSw; have hSc := HSS.out w hSw; clear hSw; go_simp; first | done | with_reducible rfl)
            try simp only [Act.put, List.setIfInBounds_toArray, List.set_cons_zero, List.set_cons_succ]
            refine held_on (i := 1) (d := (some 38)) (v := ?_) rfl rfl (by kernel_rfl) (by kernel_rfl) (by kernel_rfl) (fun _ _ _ h => h) (by rfl) hHeld ?_ ?_
            rotate_left
            focus (intro w hSw; have hSc := HSS.out w hSw; clear hSw; go_simp; first | done | with_reducible rfl)
            try simp only [Act.put, List.setIfInBounds_toArray, List.set_cons_zero, List.set_cons_succ]
            refine held_on (i := 2) (d := (some 39)) (v := ?_) rfl rfl (by kernel_rfl) (by kernel_rfl) (by kernel_rfl) (fun _ _ _ h => h) (by rfl) hHeld ?_ ?_
            rotate_left
            focus (intro w hSw; have hSc := HSS.out w hSw; clear hSw; go_simp; first | done | with_reducible rfl)
            try simp only [Act.put, List.setIfInBounds_toArray, List.set_cons_zero, List.set_cons_succ]
            refine held_on (i := 3) (d := (some 40)) (v := ?_) rfl rfl (by kernel_rfl) (by kernel_rfl) (by kernel_rfl) (fun _ _ _ h => h) (by rfl) hHeld ?_ ?_
            rotate_left
            focus (intro w hSw; have hSc := HSS.out w hSw; clear hSw; go_simp; first | done | with_reducible rfl)
            try simp only [Act.put, List.setIfInBounds_toArray, List.set_cons_zero, List.set_cons_succ]
            refine held_on (i := 4) (d := (some 41)) (v := ?_) rfl rfl (by kernel_rfl) (by kernel_rfl) (by kernel_rfl) (fun _ _ _ h => h) (by rfl) hHeld ?_ ?_
            rotate_left
            focus (intro w hSw; have hSc := HSS.out w hSw; clear hSw; go_simp; first | done | with_reducible rfl)
            try simp only [Act.put, List.setIfInBounds_toArray, List.set_cons_zero, List.set_cons_succ]
            refine held_call (i := 5) (by kernel_rfl) rfl (by rfl) (fun K hK => ?_)
            go_simp
            (refine (HCM.out _ hHeld).mono ?_; rintro e w2 ⟨rfl, hx2⟩)
            refine hK.out _ _ (hHeld.trans hx2) (fun hHeld => ?_)
            clear hK K
            try simp only [Act.put, List.setIfInBounds_toArray, List.set_cons_zero, List.set_cons_succ]
            refine held_on (i := 6) (d := (some 43)) (v := ?_) rfl rfl (by kernel_rfl) (by kernel_rfl) (by kernel_rfl) (fun _ _ _ h => h) (by rfl) hHeld ?_ ?_
            rotate_left
            focus (intro w hSw; have hSc := HSS.out w hSw; clear hSw; go_simp; first | done | with_reducible rfl)
            try simp only [Act.put, List.setIfInBounds_toArray, List.set_cons_zero, List.set_cons_succ]
            refine held_on (i := 7) (d := (some 44)) (v := ?_) rfl rfl (by kernel_rfl) (by kernel_rfl) (by kernel_rfl) (fun _ _ _ h => h) (by rfl) hHeld ?_ ?_
            rotate_left
            focus (intro w hSw; have hSc := HSS.out w hSw; clear hSw; go_simp; first | done | with_reducible rfl)
            try simp only [Act.put, List.setIfInBounds_toArray, List.set_cons_zero, List.set_cons_succ]
            refine held_off (i := 8) (d := (some 45)) rfl rfl (by kernel_rfl) (by kernel_rfl) (by kernel_rfl) (fun _ _ _ h => h) (by rfl) hHeld ?_
            try simp only [Act.put, List.setIfInBounds_toArray, List.set_cons_zero, List.set_cons_succ]
            refine held_off (i := 9) (d := (some 46)) rfl rfl (by kernel_rfl) (by kernel_rfl) (by kernel_rfl) (fun _ _ _ h => h) (by rfl) hHeld ?_
            try simp only [Act.put, List.setIfInBounds_toArray, List.set_cons_zero, List.set_cons_succ]
            refine held_off (i := 10) (d := (some 47)) rfl rfl (by kernel_rfl) (by kernel_rfl) (by kernel_rfl) (fun _ _ _ h => h) (by rfl) hHeld ?_
            try simp only [Act.put, List.setIfInBounds_toArray, List.set_cons_zero, List.set_cons_succ]
            refine held_off (i := 11) (d := (some 48)) rfl rfl (by kernel_rfl) (by kernel_rfl) (by kernel_rfl) (fun _ _ _ h => h) (by rfl) hHeld ?_
            try simp only [Act.put, List.setIfInBounds_toArray, List.set_cons_zero, List.set_cons_succ]
            refine held_off (i := 12) (d := (some 49)) rfl rfl (by kernel_rfl) (by kernel_rfl) (by kernel_rfl) (fun _ _ _ h => h) (by rfl) hHeld ?_
            try simp only [Act.put, List.setIfInBounds_toArray, List.set_cons_zero, List.set_cons_succ]
            refine held_off (i := 13) (d := (some 50)) rfl rfl (by kernel_rfl) (by kernel_rfl) (by kernel_rfl) (fun _ _ _ h => h) (by rfl) hHeld ?_
            try simp only [Act.put, List.setIfInBounds_toArray, List.set_cons_zero, List.set_cons_succ]
            refine held_off (i := 14) (d := (some 51)) rfl rfl (by kernel_rfl) (by kernel_rfl) (by kernel_rfl) (fun _ _ _ h => h) (by rfl) hHeld ?_
            try simp only [Act.put, List.setIfInBounds_toArray, List.set_cons_zero, List.set_cons_succ]
            refine held_off (i := 15) (d := (some 52)) rfl rfl (by kernel_rfl) (by kernel_rfl) (by kernel_rfl) (fun _ _ _ h => h) (by rfl) hHeld ?_
            try simp only [Act.put, List.setIfInBounds_toArray, List.set_cons_zero, List.set_cons_succ]
            refine held_on (i := 16) (d := (some 53)) (v := ?_) rfl rfl (by kernel_rfl) (by kernel_rfl) (by kernel_rfl) (fun _ _ _ h => h) (by rfl) hHeld ?_ ?_
            rotate_left
            focus (intro w hSw; have hSc := HSS.out w hSw; clear hSw; go_simp; first | done | with_reducible rfl)
            try simp only [Act.put, List.setIfInBounds_toArray, List.set_cons_zero, List.set_cons_succ]
            refine held_on (i := 17) (d := (some 54)) (v := ?_) rfl rfl (by kernel_rfl) (by kernel_rfl) (by kernel_rfl) (fun _ _ _ h => h) (by rfl) hHeld ?_ ?_
            rotate_left
            focus (intro w hSw; have hSc := HSS.out w hSw; clear hSw; go_simp; first | done | with_reducible rfl)
            try simp only [Act.put, List.setIfInBounds_toArray, List.set_cons_zero, List.set_cons_succ]
            refine held_off (i := 18) (d := (some 55)) rfl rfl (by kernel_rfl) (by kernel_rfl) (by kernel_rfl) (fun _ _ _ h => h) (by rfl) hHeld ?_
            try simp only [Act.put, List.setIfInBounds_toArray, List.set_cons_zero, List.set_cons_succ]
            refine held_off (i := 19) (d := (some 56)) rfl rfl (by kernel_rfl) (by kernel_rfl) (by kernel_rfl) (fun _ _ _ h => h) (by rfl) hHeld ?_
            try simp only [Act.put, List.setIfInBounds_toArray, List.set_cons_zero, List.set_cons_succ]
            refine held_off (i := 20) (d := (some 57)) rfl rfl (by kernel_rfl) (by kernel_rfl) (by kernel_rfl) (fun _ _ _ h => h) (by rfl) hHeld ?_
            try simp only [Act.put, List.setIfInBounds_toArray, List.set_cons_zero, List.set_cons_succ]
            refine held_off (i := 21) (d := (some 58)) rfl rfl (by kernel_rfl) (by kernel_rfl) (by kernel_rfl) (fun _ _ _ h => h) (by rfl) hHeld ?_
            try simp only [Act.put, List.setIfInBounds_toArray, List.set_cons_zero, List.set_cons_succ]
            refine held_off (i := 22) (d := (some 59)) rfl rfl (by kernel_rfl) (by kernel_rfl) (by kernel_rfl) (fun _ _ _ h => h) (by rfl) hHeld ?_
            try simp only [Act.put, List.setIfInBounds_toArray, List.set_cons_zero, List.set_cons_succ]
            refine held_off (i := 23) (d := (some 60)) rfl rfl (by kernel_rfl) (by kernel_rfl) (by kernel_rfl) (fun _ _ _ h => h) (by rfl) hHeld ?_
            try simp only [Act.put, List.setIfInBounds_toArray, List.set_cons_zero, List.set_cons_succ]
            refine held_off (i := 24) (d := (some 61)) rfl rfl (by kernel_rfl) (by kernel_rfl) (by kernel_rfl) (fun _ _ _ h => h) (by rfl) hHeld ?_
            try simp only [Act.put, List.setIfInBounds_toArray, List.set_cons_zero, List.set_cons_succ]
            refine held_off (i := 25) (d := (some 62)) rfl rfl (by kernel_rfl) (by kernel_rfl) (by kernel_rfl) (fun _ _ _ h => h) (by rfl) hHeld ?_
            try simp only [Act.put, List.setIfInBounds_toArray, List.set_cons_zero, List.set_cons_succ]
            refine held_off (i := 26) (d := (some 63)) rfl rfl (by kernel_rfl) (by kernel_rfl) (by kernel_rfl) (fun _ _ _ h => h) (by rfl) hHeld ?_
            try simp only [Act.put, List.setIfInBounds_toArray, List.set_cons_zero, List.set_cons_succ]
            refine held_off (i := 27) (d := (some 64)) rfl rfl (by kernel_rfl) (by kernel_rfl) (by kernel_rfl) (fun _ _ _ h => h) (by rfl) hHeld ?_
            try simp only [Act.put, List.setIfInBounds_toArray, List.set_cons_zero, List.set_cons_succ]
            refine held_off (i := 28) (d := (some 65)) rfl rfl (by kernel_rfl) (by kernel_rfl) (by kernel_rfl) (fun _ _ _ h => h) (by rfl) hHeld ?_
            try simp only [Act.put, List.setIfInBounds_toArray, List.set_cons_zero, List.set_cons_succ]
            refine held_off (i := 29) (d := (some 66)) rfl rfl (by kernel_rfl) (by kernel_rfl) (by kernel_rfl) (fun _ _ _ h => h) (by rfl) hHeld ?_
            try simp only [Act.put, List.setIfInBounds_toArray, List.set_cons_zero, List.set_cons_succ]
            refine held_on (i := 30) (d := (some 67)) (v := ?_) rfl rfl (by kernel_rfl) (by kernel_rfl) (by kernel_rfl) (fun _ _ _ h => h) (by rfl) hHeld ?_ ?_
            rotate_left
            focus (intro w hSw; have hSc := HSS.out w hSw; clear hSw; go_simp; first | done | with_reducible rfl)
            try simp only [Act.put, List.setIfInBounds_toArray, List.set_cons_zero, List.set_cons_succ]
            refine wpAnyH_done (by kernel_rfl) ?_ _
            have HX2 := Lib.hid (HX.out.trans hHeld)
            clear hHeld hx2
            go_wp2_with fail
            go_ret
            rw [HD2.out, HP.out, HDR.out]
            exact ⟨by simp, HX2.out⟩
          | true =>
            have hcf := HCF.out hm
            rw [hm] at HCM HDR
            have HCF2 := Lib.hid hcf
            have HMM := Lib.hid hm
            clear hm HCF hcf
            by_cases hf0 : (flatS kid).length = 0
            · go_wp2_with fail
              clear c1
              refine wp_region_held_drew (S := (fun w' => Ext wr w')) (by kernel_rfl) (((Ext.refl wr).drew)) (fun hHeld => ?_)
              refine held_on (i := 0) (d := (some 37)) (v := ?_) rfl rfl (by kernel_rfl) (by kernel_rfl) (by kernel_rfl) (fun _ _ _ h => h) (by rfl) hHeld ?_ ?_
              rotate_left
              focus (intro w hSw; have hSc := HSS.out w hSw; clear hSw; go_simp; first | done | with_reducible rfl)
              try simp only [Act.put, List.setIfInBounds_toArray, List.set_cons_zero, List.set_cons_succ]
              refine held_on (i := 1) (d := (some 38)) (v := ?_) rfl rfl (by kernel_rfl) (by kernel_rfl) (by kernel_rfl) (fun _ _ _ h => h) (by rfl) hHeld ?_ ?_
              rotate_left
              focus (intro w hSw; have hSc := HSS.out w hSw; clear hSw; go_simp; first | done | with_reducible rfl)
              try simp only [Act.put, List.setIfInBounds_toArray, List.set_cons_zero, List.set_cons_succ]
              refine held_on (i := 2) (d := (some 39)) (v := ?_) rfl rfl (by kernel_rfl) (by kernel_rfl) (by kernel_rfl) (fun _ _ _ h => h) (by rfl) hHeld ?_ ?_
              rotate_left
              focus (intro w hSw; have hSc := HSS.out w hSw; clear hSw; go_simp; first | done | with_reducible rfl)
              try simp only [Act.put, List.setIfInBounds_toArray, List.set_cons_zero, List.set_cons_succ]
              refine held_on (i := 3) (d := (some 40)) (v := ?_) rfl rfl (by kernel_rfl) (by kernel_rfl) (by kernel_rfl) (fun _ _ _ h => h) (by rfl) hHeld ?_ ?_
              rotate_left
              focus (intro w hSw; have hSc := HSS.out w hSw; clear hSw; go_simp; first | done | with_reducible rfl)
              try simp only [Act.put, List.setIfInBounds_toArray, List.set_cons_zero, List.set_cons_succ]
              refine held_on (i := 4) (d := (some 41)) (v := ?_) rfl rfl (by kernel_rfl) (by kernel_rfl) (by kernel_rfl) (fun _ _ _ h => h) (by rfl) hHeld ?_ ?_
              rotate_left
              focus (intro w hSw; have hSc := HSS.out w hSw; clear hSw; go_simp; first | done | with_reducible rfl)
              try simp only [Act.put, List.setIfInBounds_toArray, List.set_cons_zero, List.set_cons_succ]
              refine held_call (i := 5) (by kernel_rfl) rfl (by rfl) (fun K hK => ?_)
              go_simp
              (refine (HCM.out _ hHeld).mono ?_; rintro e w2 ⟨rfl, hx2⟩)
              refine hK.out _ _ (hHeld.trans hx2) (fun hHeld => ?_)
              clear hK K
              try simp only [Act.put, List.setIfInBounds_toArray, List.set_cons_zero, List.set_cons_succ]
              refine held_on (i := 6) (d := (some 43)) (v := ?_) rfl rfl (by kernel_rfl) (by kernel_rfl) (by kernel_rfl) (fun _ _ _ h => h) (by rfl) hHeld ?_ ?_
              rotate_left
              focus (intro w hSw; have hSc := HSS.out w hSw; clear hSw; go_simp; first | done | with_reducible rfl)
              try simp only [Act.put, List.setIfInBounds_toArray, List.set_cons_zero, List.set_cons_succ]
              refine held_on (i := 7) (d := (some 44)) (v := ?_) rfl rfl (by kernel_rfl) (by kernel_rfl) (by kernel_rfl) (fun _ _ _ h => h) (by rfl) hHeld ?_ ?_
              rotate_left
              focus (intro w hSw; have hSc := HSS.out w hSw; clear hSw; go_simp; first | done | with_reducible rfl)
              try simp only [Act.put, List.setIfInBounds_toArray, List.set_cons_zero, List.set_cons_succ]
              refine held_on (i := 8) (d := (some 45)) (v := ?_) rfl rfl (by kernel_rfl) (by kernel_rfl) (by kernel_rfl) (fun _ _ _ h => h) (by rfl) hHeld ?_ ?_
              rotate_left
              focus (intro w hSw; have hSc := HSS.out w hSw; clear hSw; go_simp; first | done | with_reducible rfl)
              try simp only [Act.put, List.setIfInBounds_toArray, List.set_cons_zero, List.set_cons_succ]
              refine held_on (i := 9) (d := (some 46)) (v := ?_) rfl rfl (by kernel_rfl) (by kernel_rfl) (by kernel_rfl) (fun _ _ _ h => h) (by rfl) hHeld ?_ ?_
              rotate_left
              focus (intro w hSw; have hSc := HSS.out w hSw; clear hSw; go_simp; first | done | with_reducible rfl)
              try simp only [Act.put, List.setIfInBounds_toArray, List.set_cons_zero, List.set_cons_succ]
              refine held_on (i := 10) (d := (some 47)) (v := ?_) rfl rfl (by kernel_rfl) (by kernel_rfl) (by kernel_rfl) (fun _ _ _ h => h) (by rfl) hHeld ?_ ?_
              rotate_left
              focus (intro w hSw; have hSc := HSS.out w hSw; clear hSw; go_simp; first | done | with_reducible rfl)
              try simp only [Act.put, List.setIfInBounds_toArray, List.set_cons_zero, List.set_cons_succ]
              refine held_on (i := 11) (d := (some 48)) (v := ?_) rfl rfl (by kernel_rfl) (by kernel_rfl) (by kernel_rfl) (fun _ _ _ h => h) (by rfl) hHeld ?_ ?_
              rotate_left
              focus (intro w hSw; have hSc := HSS.out w hSw; clear hSw; go_simp; first | done | with_reducible rfl)
              try simp only [Act.put, List.setIfInBounds_toArray, List.set_cons_zero, List.set_cons_succ]
              refine held_on (i := 12) (d := (some 49)) (v := ?_) rfl rfl (by kernel_rfl) (by kernel_rfl) (by kernel_rfl) (fun _ _ _ h => h) (by rfl) hHeld ?_ ?_
              rotate_left
              focus (intro w hSw; have hSc := HSS.out w hSw; clear hSw; go_simp; first | done | with_reducible rfl)
              try simp only [Act.put, List.setIfInBounds_toArray, List.set_cons_zero, List.set_cons_succ]
              refine held_call (i := 13) (by kernel_rfl) rfl (by rfl) (fun K hK => ?_)
              go_simp
              (refine (HCF2.out _ hHeld).mono ?_; rintro e w3 ⟨s3, xs3, rfl, hxs3, -, -, -, hx3⟩; have hl3 : xs3.length = (flatS kid).length := (by rw [← hxs3, List.length_map]); have hz3 : ((xs3.length : Int) == 0) = true := beq_iff_eq.2 (by omega); clear hl3 hxs3)
              refine hK.out _ _ (hHeld.trans hx3) (fun hHeld => ?_)
              clear hK K
              try simp only [Act.put, List.setIfInBounds_toArray, List.set_cons_zero, List.set_cons_succ]
              refine held_on (i := 14) (d := (some 51)) (v := ?_) rfl rfl (by kernel_rfl) (by kernel_rfl) (by kernel_rfl) (fun _ _ _ h => h) (by rfl) hHeld ?_ ?_
              rotate_left
              focus (intro w hSw; have hSc := HSS.out w hSw; clear hSw; go_simp; first | done | with_reducible rfl)
              try simp only [Act.put, List.setIfInBounds_toArray, List.set_cons_zero, List.set_cons_succ]
              refine held_on (i := 15) (d := (some 52)) (v := ?_) rfl rfl (by kernel_rfl) (by kernel_rfl) (by kernel_rfl) (fun _ _ _ h => h) (by rfl) hHeld ?_ ?_
              rotate_left
              focus (intro w hSw; have hSc := HSS.out w hSw; clear hSw; go_simp; first | done | with_reducible rfl)
              try simp only [Act.put, List.setIfInBounds_toArray, List.set_cons_zero, List.set_cons_succ]
              refine held_on (i := 16) (d := (some 53)) (v := ?_) rfl rfl (by kernel_rfl) (by kernel_rfl) (by kernel_rfl) (fun _ _ _ h => h) (by rfl) hHeld ?_ ?_
              rotate_left
              focus (intro w hSw; have hSc := HSS.out w hSw; clear hSw; go_simp; first | done | with_reducible rfl)
              try simp only [Act.put, List.setIfInBounds_toArray, List.set_cons_zero, List.set_cons_succ]
              refine held_on (i := 17) (d := (some 54)) (v := ?_) rfl rfl (by kernel_rfl) (by kernel_rfl) (by kernel_rfl) (fun _ _ _ h => h) (by rfl) hHeld ?_ ?_
              rotate_left
              focus (intro w hSw; have hSc := HSS.out w hSw; clear hSw; go_simp; first | done | with_reducible rfl)
              try simp only [Act.put, List.setIfInBounds_toArray, List.set_cons_zero, List.set_cons_succ]
              refine held_off (i := 18) (d := (some 55)) rfl rfl (by kernel_rfl) (by kernel_rfl) (by kernel_rfl) (fun _ _ _ h => h) (by rfl) hHeld ?_
              try simp only [Act.put, List.setIfInBounds_toArray, List.set_cons_zero, List.set_cons_succ]
              refine held_off (i := 19) (d := (some 56)) rfl rfl (by kernel_rfl) (by kernel_rfl) (by kernel_rfl) (fun _ _ _ h => h) (by rfl) hHeld ?_
              try simp only [Act.put, List.setIfInBounds_toArray, List.set_cons_zero, List.set_cons_succ]
              refine held_off (i := 20) (d := (some 57)) rfl rfl (by kernel_rfl) (by kernel_rfl) (by kernel_rfl) (fun _ _ _ h => h) (by rfl) hHeld ?_
              try simp only [Act.put, List.setIfInBounds_toArray, List.set_cons_zero, List.set_cons_succ]
              refine held_off (i := 21) (d := (some 58)) rfl rfl (by kernel_rfl) (by kernel_rfl) (by kernel_rfl) (fun _ _ _ h => h) (by rfl) hHeld ?_
              try simp only [Act.put, List.setIfInBounds_toArray, List.set_cons_zero, List.set_cons_succ]
              refine held_off (i := 22) (d := (some 59)) rfl rfl (by kernel_rfl) (by kernel_rfl) (by kernel_rfl) (fun _ _ _ h => h) (by rfl) hHeld ?_
              try simp only [Act.put, List.setIfInBounds_toArray, List.set_cons_zero, List.set_cons_succ]
              refine held_off (i := 23) (d := (some 60)) rfl rfl (by kernel_rfl) (by kernel_rfl) (by kernel_rfl) (fun _ _ _ h => h) (by rfl) hHeld ?_
              try simp only [Act.put, List.setIfInBounds_toArray, List.set_cons_zero, List.set_cons_succ]
              refine held_off (i := 24) (d := (some 61)) rfl rfl (by kernel_rfl) (by kernel_rfl) (by kernel_rfl) (fun _ _ _ h => h) (by rfl) hHeld ?_
              try simp only [Act.put, List.setIfInBounds_toArray, List.set_cons_zero, List.set_cons_succ]
              refine held_off (i := 25) (d := (some 62)) rfl rfl (by kernel_rfl) (by kernel_rfl) (by kernel_rfl) (fun _ _ _ h => h) (by rfl) hHeld ?_
              try simp only [Act.put, List.setIfInBounds_toArray, List.set_cons_zero, List.set_cons_succ]
              refine held_off (i := 26) (d := (some 63)) rfl rfl (by kernel_rfl) (by kernel_rfl) (by kernel_rfl) (fun _ _ _ h => h) (by rfl) hHeld ?_
              try simp only [Act.put, List.setIfInBounds_toArray, List.set_cons_zero, List.set_cons_succ]
              refine held_off (i := 27) (d := (some 64)) rfl rfl (by kernel_rfl) (by kernel_rfl) (by kernel_rfl) (fun _ _ _ h => h) (by rfl) hHeld ?_
              try simp only [Act.put, List.setIfInBounds_toArray, List.set_cons_zero, List.set_cons_succ]
              refine held_off (i := 28) (d := (some 65)) rfl rfl (by kernel_rfl) (by kernel_rfl) (by kernel_rfl) (fun _ _ _ h => h) (by rfl) hHeld ?_
              try simp only [Act.put, List.setIfInBounds_toArray, List.set_cons_zero, List.set_cons_succ]
              refine held_off (i := 29) (d := (some 66)) rfl rfl (by kernel_rfl) (by kernel_rfl) (by kernel_rfl) (fun _ _ _ h => h) (by rfl) hHeld ?_
              try simp only [Act.put, List.setIfInBounds_toArray, List.set_cons_zero, List.set_cons_succ]
              refine held_on (i := 30) (d := (some 67)) (v := ?_) rfl rfl (by kernel_rfl) (by kernel_rfl) (by kernel_rfl) (fun _ _ _ h => h) (by rfl) hHeld ?_ ?_
              rotate_left
              focus (intro w hSw; have hSc := HSS.out w hSw; clear hSw; go_simp; first | done | with_reducible rfl)
              try simp only [Act.put, List.setIfInBounds_toArray, List.set_cons_zero, List.set_cons_succ]
              refine wpAnyH_done (by kernel_rfl) ?_ _
              have HX2 := Lib.hid (HX.out.trans hHeld)
              have HF0 := Lib.hid hf0
              clear hHeld hx2 hx3 hz3 hf0
              go_wp2_with fail
              go_ret
              rw [HD2.out, HP.out, HDR.out, HF0.out]
              exact ⟨by simp, HX2.out⟩
            · by_cases hh : heightS kid = H
              · have hne : ((heightS kid : Int) != (heightS k0 : Int)) = false := by rw [HH0.out, hh]; simp
                have HHH := Lib.hid hh
                clear hh
                go_wp2_with fail
                clear c1
                refine wp_region_held_drew (S := (fun w' => Ext wr w')) (by kernel_rfl) (((Ext.refl wr).drew)) (fun hHeld => ?_)
                refine held_on (i := 0) (d := (some 37)) (v := ?_) rfl rfl (by kernel_rfl) (by kernel_rfl) (by kernel_rfl) (fun _ _ _ h => h) (by rfl) hHeld ?_ ?_
                rotate_left
                focus (intro w hSw; have hSc := HSS.out w hSw; clear hSw; go_simp; first | done | with_reducible rfl)
                try simp only [Act.put, List.setIfInBounds_toArray, List.set_cons_zero, List.set_cons_succ]
                refine held_on (i := 1) (d := (some 38)) (v := ?_) rfl rfl (by kernel_rfl) (by kernel_rfl) (by kernel_rfl) (fun _ _ _ h => h) (by rfl) hHeld ?_ ?_
                rotate_left
                focus (intro w hSw; have hSc := HSS.out w hSw; clear hSw; go_simp; first | done | with_reducible rfl)
                try simp only [Act.put, List.setIfInBounds_toArray, List.set_cons_zero, List.set_cons_succ]
                refine held_on (i := 2) (d := (some 39)) (v := ?_) rfl rfl (by kernel_rfl) (by kernel_rfl) (by kernel_rfl) (fun _ _ _ h => h) (by rfl) hHeld ?_ ?_
                rotate_left
                focus (intro w hSw; have hSc := HSS.out w hSw; clear hSw; go_simp; first | done | with_reducible rfl)
                try simp only [Act.put, List.setIfInBounds_toArray, List.set_cons_zero, List.set_cons_succ]
                refine held_on (i := 3) (d := (some 40)) (v := ?_) rfl rfl (by kernel_rfl) (by kernel_rfl) (by kernel_rfl) (fun _ _ _ h => h) (by rfl) hHeld ?_ ?_
                rotate_left
                focus (intro w hSw; have hSc := HSS.out w hSw; clear hSw; go_simp; first | done | with_reducible rfl)
                try simp only [Act.put, List.setIfInBounds_toArray, List.set_cons_zero, List.set_cons_succ]
                refine held_on (i := 4) (d := (some 41)) (v := ?_) rfl rfl (by kernel_rfl) (by kernel_rfl) (by kernel_rfl) (fun _ _ _ h => h) (by rfl) hHeld ?_ ?_
                rotate_left
                focus (intro w hSw; have hSc := HSS.out w hSw; clear hSw; go_simp; first | done | with_reducible rfl)
                try simp only [Act.put, List.setIfInBounds_toArray, List.set_cons_zero, List.set_cons_succ]
                refine held_call (i := 5) (by kernel_rfl) rfl (by rfl) (fun K hK => ?_)
                go_simp
                (refine (HCM.out _ hHeld).mono ?_; rintro e w2 ⟨rfl, hx2⟩)
                refine hK.out _ _ (hHeld.trans hx2) (fun hHeld => ?_)
                clear hK K
                try simp only [Act.put, List.setIfInBounds_toArray, List.set_cons_zero, List.set_cons_succ]
                refine held_on (i := 6) (d := (some 43)) (v := ?_) rfl rfl (by kernel_rfl) (by kernel_rfl) (by kernel_rfl) (fun _ _ _ h => h) (by rfl) hHeld ?_ ?_
                rotate_left
                focus (intro w hSw; have hSc := HSS.out w hSw; clear hSw; go_simp; first | done | with_reducible rfl)
                try simp only [Act.put, List.setIfInBounds_toArray, List.set_cons_zero, List.set_cons_succ]
                refine held_on (i := 7) (d := (some 44)) (v := ?_) rfl rfl (by kernel_rfl) (by kernel_rfl) (by kernel_rfl) (fun _ _ _ h => h) (by rfl) hHeld ?_ ?_
                rotate_left
                focus (intro w hSw; have hSc := HSS.out w hSw; clear hSw; go_simp; first | done | with_reducible rfl)
                try simp only [Act.put, List.setIfInBounds_toArray, List.set_cons_zero, List.set_cons_succ]
                refine held_on (i := 8) (d := (some 45)) (v := ?_) rfl rfl (by kernel_rfl) (by kernel_rfl) (by kernel_rfl) (fun _ _ _ h => h) (by rfl) hHeld ?_ ?_
                rotate_left
                focus (intro w hSw; have hSc := HSS.out w hSw; clear hSw; go_simp; first | done | with_reducible rfl)
                try simp only [Act.put, List.setIfInBounds_toArray, List.set_cons_zero, List.set_cons_succ]
                refine held_on (i := 9) (d := (some 46)) (v := ?_) rfl rfl (by kernel_rfl) (by kernel_rfl) (by kernel_rfl) (fun _ _ _ h => h) (by rfl) hHeld ?_ ?_
                rotate_left
                focus (intro w hSw; have hSc := HSS.out w hSw; clear hSw; go_simp; first | done | with_reducible rfl)
                try simp only [Act.put, List.setIfInBounds_toArray, List.set_cons_zero, List.set_cons_succ]
                refine held_on (i := 10) (d := (some 47)) (v := ?_) rfl rfl (by kernel_rfl) (by kernel_rfl) (by kernel_rfl) (fun _ _ _ h => h) (by rfl) hHeld ?_ ?_
                rotate_left
                focus (intro w hSw; have hSc := HSS.out w hSw; clear hSw; go_simp; first | done | with_reducible rfl)
                try simp only [Act.put, List.setIfInBounds_toArray, List.set_cons_zero, List.set_cons_succ]
                refine held_on (i := 11) (d := (some 48)) (v := ?_) rfl rfl (by kernel_rfl) (by kernel_rfl) (by kernel_rfl) (fun _ _ _ h => h) (by rfl) hHeld ?_ ?_
                rotate_left
                focus (intro w hSw; have hSc := HSS.out w hSw; clear hSw; go_simp; first | done | with_reducible rfl)
                try simp only [Act.put, List.setIfInBounds_toArray, List.set_cons_zero, List.set_cons_succ]
                refine held_on (i := 12) (d := (some 49)) (v := ?_) rfl rfl (by kernel_rfl) (by kernel_rfl) (by kernel_rfl) (fun _ _ _ h => h) (by rfl) hHeld ?_ ?_
                rotate_left
                focus (intro w hSw; have hSc := HSS.out w hSw; clear hSw; go_simp; first | done | with_reducible rfl)
                try simp only [Act.put, List.setIfInBounds_toArray, List.set_cons_zero, List.set_cons_succ]
                refine held_call (i := 13) (by kernel_rfl) rfl (by rfl) (fun K hK => ?_)
                go_simp
                (refine (HCF2.out _ hHeld).mono ?_; rintro e w3 ⟨s3, xs3, rfl, hxs3, -, -, -, hx3⟩; have hl3 : xs3.length = (flatS kid).length := (by rw [← hxs3, List.length_map]); have hz3 : ((xs3.length : Int) == 0) = false := beq_eq_false_iff_ne.2 (by omega); clear hl3 hxs3)
                refine hK.out _ _ (hHeld.trans hx3) (fun hHeld => ?_)
                clear hK K
                try simp only [Act.put, List.setIfInBounds_toArray, List.set_cons_zero, List.set_cons_succ]
                refine held_on (i := 14) (d := (some 51)) (v := ?_) rfl rfl (by kernel_rfl) (by kernel_rfl) (by kernel_rfl) (fun _ _ _ h => h) (by rfl) hHeld ?_ ?_
                rotate_left
                focus (intro w hSw; have hSc := HSS.out w hSw; clear hSw; go_simp; first | done | with_reducible rfl)
                try simp only [Act.put, List.setIfInBounds_toArray, List.set_cons_zero, List.set_cons_succ]
                refine held_on (i := 15) (d := (some 52)) (v := ?_) rfl rfl (by kernel_rfl) (by kernel_rfl) (by kernel_rfl) (fun _ _ _ h => h) (by rfl) hHeld ?_ ?_
                rotate_left
                focus (intro w hSw; have hSc := HSS.out w hSw; clear hSw; go_simp; first | done | with_reducible rfl)
                try simp only [Act.put, List.setIfInBounds_toArray, List.set_cons_zero, List.set_cons_succ]
                refine held_on (i := 16) (d := (some 53)) (v := ?_) rfl rfl (by kernel_rfl) (by kernel_rfl) (by kernel_rfl) (fun _ _ _ h => h) (by rfl) hHeld ?_ ?_
                rotate_left
                focus (intro w hSw; have hSc := HSS.out w hSw; clear hSw; go_simp; first | done | with_reducible rfl)
                try simp only [Act.put, List.setIfInBounds_toArray, List.set_cons_zero, List.set_cons_succ]
                refine held_on (i := 17) (d := (some 54)) (v := ?_) rfl rfl (by kernel_rfl) (by kernel_rfl) (by kernel_rfl) (fun _ _ _ h => h) (by rfl) hHeld ?_ ?_
                rotate_left
                focus (intro w hSw; have hSc := HSS.out w hSw; clear hSw; go_simp; first | done | with_reducible rfl)
                try simp only [Act.put, List.setIfInBounds_toArray, List.set_cons_zero, List.set_cons_succ]
                refine held_on (i := 18) (d := (some 55)) (v := ?_) rfl rfl (by kernel_rfl) (by kernel_rfl) (by kernel_rfl) (fun _ _ _ h => h) (by rfl) hHeld ?_ ?_
                rotate_left
                focus (intro w hSw; have hSc := HSS.out w hSw; clear hSw; go_simp; first | done | with_reducible rfl)
                try simp only [Act.put, List.setIfInBounds_toArray, List.set_cons_zero, List.set_cons_succ]
                refine held_on (i := 19) (d := (some 56)) (v := ?_) rfl rfl (by kernel_rfl) (by kernel_rfl) (by kernel_rfl) (fun _ _ _ h => h) (by rfl) hHeld ?_ ?_
                rotate_left
                focus (intro w hSw; have hSc := HSS.out w hSw; clear hSw; go_simp; first | done | with_reducible rfl)
                try simp only [Act.put, List.setIfInBounds_toArray, List.set_cons_zero, List.set_cons_succ]
                refine held_on (i := 20) (d := (some 57)) (v := ?_) rfl rfl (by kernel_rfl) (by kernel_rfl) (by kernel_rfl) (fun _ _ _ h => h) (by rfl) hHeld ?_ ?_
                rotate_left
                focus (intro w hSw; have hSc := HSS.out w hSw; clear hSw; go_simp; first | done | with_reducible rfl)
                try simp only [Act.put, List.setIfInBounds_toArray, List.set_cons_zero, List.set_cons_succ]
                refine held_on (i := 21) (d := (some 58)) (v := ?_) rfl rfl (by kernel_rfl) (by kernel_rfl) (by kernel_rfl) (fun _ _ _ h => h) (by rfl) hHeld ?_ ?_
                rotate_left
                focus (intro w hSw; have hSc := HSS.out w hSw; clear hSw; go_simp; first | done | with_reducible rfl)
                try simp only [Act.put, List.setIfInBounds_toArray, List.set_cons_zero, List.set_cons_succ]
                refine held_on (i := 22) (d := (some 59)) (v := ?_) rfl rfl (by kernel_rfl) (by kernel_rfl) (by kernel_rfl) (fun _ _ _ h => h) (by rfl) hHeld ?_ ?_
                rotate_left
                focus (intro w hSw; have hSc := HSS.out w hSw; clear hSw; go_simp; first | done | with_reducible rfl)
                try simp only [Act.put, List.setIfInBounds_toArray, List.set_cons_zero, List.set_cons_succ]
                refine held_on (i := 24) (d := (some 61)) (v := ?_) rfl rfl (by kernel_rfl) (by kernel_rfl) (by kernel_rfl) (fun _ _ _ h => h) (by rfl) hHeld ?_ ?_
                rotate_left
                focus (intro w hSw; have hSc := HSS.out w hSw; clear hSw; go_simp; first | done | with_reducible rfl)
                try simp only [Act.put, List.setIfInBounds_toArray, List.set_cons_zero, List.set_cons_succ]
                refine held_on (i := 25) (d := (some 62)) (v := ?_) rfl rfl (by kernel_rfl) (by kernel_rfl) (by kernel_rfl) (fun _ _ _ h => h) (by rfl) hHeld ?_ ?_
                rotate_left
                focus (intro w hSw; have hSc := HSS.out w hSw; clear hSw; go_simp; first | done | with_reducible rfl)
                try simp only [Act.put, List.setIfInBounds_toArray, List.set_cons_zero, List.set_cons_succ]
                refine held_on (i := 26) (d := (some 63)) (v := ?_) rfl rfl (by kernel_rfl) (by kernel_rfl) (by kernel_rfl) (fun _ _ _ h => h) (by rfl) hHeld ?_ ?_
                rotate_left
                focus (intro w hSw; have hSc := HSS.out w hSw; clear hSw; go_simp; first | done | with_reducible rfl)
                try simp only [Act.put, List.setIfInBounds_toArray, List.set_cons_zero, List.set_cons_succ]
                refine held_on (i := 27) (d := (some 64)) (v := ?_) rfl rfl (by kernel_rfl) (by kernel_rfl) (by kernel_rfl) (fun _ _ _ h => h) (by rfl) hHeld ?_ ?_
                rotate_left
                focus (intro w hSw; have hSc := HSS.out w hSw; clear hSw; go_simp; first | done | with_reducible rfl)
                try simp only [Act.put, List.setIfInBounds_toArray, List.set_cons_zero, List.set_cons_succ]
                refine held_call (i := 23) (by kernel_rfl) rfl (by rfl) (fun K hK => ?_)
                go_simp
                (refine (HCH.out _ hHeld).mono ?_; rintro e w4 ⟨rfl, hx4⟩)
                refine hK.out _ _ (hHeld.trans hx4) (fun hHeld => ?_)
                clear hK K
                try simp only [Act.put, List.setIfInBounds_toArray, List.set_cons_zero, List.set_cons_succ]
                refine held_call (i := 28) (by kernel_rfl) rfl (by rfl) (fun K hK => ?_)
                go_simp
                (refine (HC0.out _ hHeld).mono ?_; rintro e w5 ⟨rfl, hx5⟩)
                refine hK.out _ _ (hHeld.trans hx5) (fun hHeld => ?_)
                clear hK K
                try simp only [Act.put, List.setIfInBounds_toArray, List.set_cons_zero, List.set_cons_succ]
                refine held_on (i := 29) (d := (some 66)) (v := ?_) rfl rfl (by kernel_rfl) (by kernel_rfl) (by kernel_rfl) (fun _ _ _ h => h) (by rfl) hHeld ?_ ?_
                rotate_left
                focus (intro w hSw; have hSc := HSS.out w hSw; clear hSw; go_simp; first | done | with_reducible rfl)
                try simp only [Act.put, List.setIfInBounds_toArray, List.set_cons_zero, List.set_cons_succ]
                refine held_on (i := 30) (d := (some 67)) (v := ?_) rfl rfl (by kernel_rfl) (by kernel_rfl) (by kernel_rfl) (fun _ _ _ h => h) (by rfl) hHeld ?_ ?_
                rotate_left
                focus (intro w hSw; have hSc := HSS.out w hSw; clear hSw; go_simp; first | done | with_reducible rfl)
                try simp only [Act.put, List.setIfInBounds_toArray, List.set_cons_zero, List.set_cons_succ]
                refine wpAnyH_done (by kernel_rfl) ?_ _
                have HX2 := Lib.hid (HX.out.trans hHeld)
                have HB2 := Lib.hid (HB.out.ext hHeld)
                have HF0 := Lib.hid hf0
                clear hHeld hx2 hx3 hx4 hx5 hz3 hf0 hne
                go_wp2_with fail
                go_roundw
                case rel => exact ⟨j + 1, hlt, by go_num, by rw [HP.out, HDR.out, decide_eq_true (show 0 < (flatS kid).length from Nat.pos_of_ne_zero HF0.out), decide_eq_true HHH.out]; rfl, HB2.out, HX2.out⟩
                case measure => simp [intOf]; omega
              · have hne : ((heightS kid : Int) != (heightS k0 : Int)) = true := bne_iff_ne.2 (by rw [HH0.out]; omega)
                have HHH := Lib.hid hh
                clear hh
                go_wp2_with fail
                clear c1
                refine wp_region_held_drew (S := (fun w' => Ext wr w')) (by kernel_rfl) (((Ext.refl wr).drew)) (fun hHeld => ?_)
                refine held_on (i := 0) (d := (some 37)) (v := ?_) rfl rfl (by kernel_rfl) (by kernel_rfl) (by kernel_rfl) (fun _ _ _ h => h) (by rfl) hHeld ?_ ?_
                rotate_left
                focus (intro w hSw; have hSc := HSS.out w hSw; clear hSw; go_simp; first | done | with_reducible rfl)
                try simp only [Act.put, List.setIfInBounds_toArray, List.set_cons_zero, List.set_cons_succ]
                refine held_on (i := 1) (d := (some 38)) (v := ?_) rfl rfl (by kernel_rfl) (by kernel_rfl) (by kernel_rfl) (fun _ _ _ h => h) (by rfl) hHeld ?_ ?_
                rotate_left
                focus (intro w hSw; have hSc := HSS.out w hSw; clear hSw; go_simp; first | done | with_reducible rfl)
                try simp only [Act.put, List.setIfInBounds_toArray, List.set_cons_zero, List.set_cons_succ]
                refine held_on (i := 2) (d := (some 39)) (v := ?_) rfl rfl (by kernel_rfl) (by kernel_rfl) (by kernel_rfl) (fun _ _ _ h => h) (by rfl) hHeld ?_ ?_
                rotate_left
                focus (intro w hSw; have hSc := HSS.out w hSw; clear hSw; go_simp; first | done | with_reducible rfl)
                try simp only [Act.put, List.setIfInBounds_toArray, List.set_cons_zero, List.set_cons_succ]
                refine held_on (i := 3) (d := (some 40)) (v := ?_) rfl rfl (by kernel_rfl) (by kernel_rfl) (by kernel_rfl) (fun _ _ _ h => h) (by rfl) hHeld ?_ ?_
                rotate_left
                focus (intro w hSw; have hSc := HSS.out w hSw; clear hSw; go_simp; first | done | with_reducible rfl)
                try simp only [Act.put, List.setIfInBounds_toArray, List.set_cons_zero, List.set_cons_succ]
                refine held_on (i := 4) (d := (some 41)) (v := ?_) rfl rfl (by kernel_rfl) (by kernel_rfl) (by kernel_rfl) (fun _ _ _ h => h) (by rfl) hHeld ?_ ?_
                rotate_left
                focus (intro w hSw; have hSc := HSS.out w hSw; clear hSw; go_simp; first | done | with_reducible rfl)
                try simp only [Act.put, List.setIfInBounds_toArray, List.set_cons_zero, List.set_cons_succ]
                refine held_call (i := 5) (by kernel_rfl) rfl (by rfl) (fun K hK => ?_)
                go_simp
                (refine (HCM.out _ hHeld).mono ?_; rintro e w2 ⟨rfl, hx2⟩)
                refine hK.out _ _ (hHeld.trans hx2) (fun hHeld => ?_)
                clear hK K
                try simp only [Act.put, List.setIfInBounds_toArray, List.set_cons_zero, List.set_cons_succ]
                refine held_on (i := 6) (d := (some 43)) (v := ?_) rfl rfl (by kernel_rfl) (by kernel_rfl) (by kernel_rfl) (fun _ _ _ h => h) (by rfl) hHeld ?_ ?_
                rotate_left
                focus (intro w hSw; have hSc := HSS.out w hSw; clear hSw; go_simp; first | done | with_reducible rfl)
                try simp only [Act.put, List.setIfInBounds_toArray, List.set_cons_zero, List.set_cons_succ]
                refine held_on (i := 7) (d := (some 44)) (v := ?_) rfl rfl (by kernel_rfl) (by kernel_rfl) (by kernel_rfl) (fun _ _ _ h => h) (by rfl) hHeld ?_ ?_
                rotate_left
                focus (intro w hSw; have hSc := HSS.out w hSw; clear hSw; go_simp; first | done | with_reducible rfl)
                try simp only [Act.put, List.setIfInBounds_toArray, List.set_cons_zero, List.set_cons_succ]
                refine held_on (i := 8) (d := (some 45)) (v := ?_) rfl rfl (by kernel_rfl) (by kernel_rfl) (by kernel_rfl) (fun _ _ _ h => h) (by rfl) hHeld ?_ ?_
                rotate_left
                focus (intro w hSw; have hSc := HSS.out w hSw; clear hSw; go_simp; first | done | with_reducible rfl)
                try simp only [Act.put, List.setIfInBounds_toArray, List.set_cons_zero, List.set_cons_succ]
                refine held_on (i := 9) (d := (some 46)) (v := ?_) rfl rfl (by kernel_rfl) (by kernel_rfl) (by kernel_rfl) (fun _ _ _ h => h) (by rfl) hHeld ?_ ?_
                rotate_left
                focus (intro w hSw; have hSc := HSS.out w hSw; clear hSw; go_simp; first | done | with_reducible rfl)
                try simp only [Act.put, List.setIfInBounds_toArray, List.set_cons_zero, List.set_cons_succ]
                refine held_on (i := 10) (d := (some 47)) (v := ?_) rfl rfl (by kernel_rfl) (by kernel_rfl) (by kernel_rfl) (fun _ _ _ h => h) (by rfl) hHeld ?_ ?_
                rotate_left
                focus (intro w hSw; have hSc := HSS.out w hSw; clear hSw; go_simp; first | done | with_reducible rfl)
                try simp only [Act.put, List.setIfInBounds_toArray, List.set_cons_zero, List.set_cons_succ]
                refine held_on (i := 11) (d := (some 48)) (v := ?_) rfl rfl (by kernel_rfl) (by kernel_rfl) (by kernel_rfl) (fun _ _ _ h => h) (by rfl) hHeld ?_ ?_
                rotate_left
                focus (intro w hSw; have hSc := HSS.out w hSw; clear hSw; go_simp; first | done | with_reducible rfl)
                try simp only [Act.put, List.setIfInBounds_toArray, List.set_cons_zero, List.set_cons_succ]
                refine held_on (i := 12) (d := (some 49)) (v := ?_) rfl rfl (by kernel_rfl) (by kernel_rfl) (by kernel_rfl) (fun _ _ _ h => h) (by rfl) hHeld ?_ ?_
                rotate_left
                focus (intro w hSw; have hSc := HSS.out w hSw; clear hSw; go_simp; first | done | with_reducible rfl)
                try simp only [Act.put, List.setIfInBounds_toArray, List.set_cons_zero, List.set_cons_succ]
                refine held_call (i := 13) (by kernel_rfl) rfl (by rfl) (fun K hK => ?_)
                go_simp
                (refine (HCF2.out _ hHeld).mono ?_; rintro e w3 ⟨s3, xs3, rfl, hxs3, -, -, -, hx3⟩; have hl3 : xs3.length = (flatS kid).length := (by rw [← hxs3, List.length_map]); have hz3 : ((xs3.length : Int) == 0) = false := beq_eq_false_iff_ne.2 (by omega); clear hl3 hxs3)
                refine hK.out _ _ (hHeld.trans hx3) (fun hHeld => ?_)
                clear hK K
                try simp only [Act.put, List.setIfInBounds_toArray, List.set_cons_zero, List.set_cons_succ]
                refine held_on (i := 14) (d := (some 51)) (v := ?_) rfl rfl (by kernel_rfl) (by kernel_rfl) (by kernel_rfl) (fun _ _ _ h => h) (by rfl) hHeld ?_ ?_
                rotate_left
                focus (intro w hSw; have hSc := HSS.out w hSw; clear hSw; go_simp; first | done | with_reducible rfl)
                try simp only [Act.put, List.setIfInBounds_toArray, List.set_cons_zero, List.set_cons_succ]
                refine held_on (i := 15) (d := (some 52)) (v := ?_) rfl rfl (by kernel_rfl) (by kernel_rfl) (by kernel_rfl) (fun _ _ _ h => h) (by rfl) hHeld ?_ ?_
                rotate_left
                focus (intro w hSw; have hSc := HSS.out w hSw; clear hSw; go_simp; first | done | with_reducible rfl)
                try simp only [Act.put, List.setIfInBounds_toArray, List.set_cons_zero, List.set_cons_succ]
                refine held_on (i := 16) (d := (some 53)) (v := ?_) rfl rfl (by kernel_rfl) (by kernel_rfl) (by kernel_rfl) (fun _ _ _ h => h) (by rfl) hHeld ?_ ?_
                rotate_left
                focus (intro w hSw; have hSc := HSS.out w hSw; clear hSw; go_simp; first | done | with_reducible rfl)
                try simp only [Act.put, List.setIfInBounds_toArray, List.set_cons_zero, List.set_cons_succ]
                refine held_on (i := 17) (d := (some 54)) (v := ?_) rfl rfl (by kernel_rfl) (by kernel_rfl) (by kernel_rfl) (fun _ _ _ h => h) (by rfl) hHeld ?_ ?_
                rotate_left
                focus (intro w hSw; have hSc := HSS.out w hSw; clear hSw; go_simp; first | done | with_reducible rfl)
                try simp only [Act.put, List.setIfInBounds_toArray, List.set_cons_zero, List.set_cons_succ]
                refine held_on (i := 18) (d := (some 55)) (v := ?_) rfl rfl (by kernel_rfl) (by kernel_rfl) (by kernel_rfl) (fun _ _ _ h => h) (by rfl) hHeld ?_ ?_
                rotate_left
                focus (intro w hSw; have hSc := HSS.out w hSw; clear hSw; go_simp; first | done | with_reducible rfl)
                try simp only [Act.put, List.setIfInBounds_toArray, List.set_cons_zero, List.set_cons_succ]
                refine held_on (i := 19) (d := (some 56)) (v := ?_) rfl rfl (by kernel_rfl) (by kernel_rfl) (by kernel_rfl) (fun _ _ _ h => h) (by rfl) hHeld ?_ ?_
                rotate_left
                focus (intro w hSw; have hSc := HSS.out w hSw; clear hSw; go_simp; first | done | with_reducible rfl)
                try simp only [Act.put, List.setIfInBounds_toArray, List.set_cons_zero, List.set_cons_succ]
                refine held_on (i := 20) (d := (some 57)) (v := ?_) rfl rfl (by kernel_rfl) (by kernel_rfl) (by kernel_rfl) (fun _ _ _ h => h) (by rfl) hHeld ?_ ?_
                rotate_left
                focus (intro w hSw; have hSc := HSS.out w hSw; clear hSw; go_simp; first | done | with_reducible rfl)
                try simp only [Act.put, List.setIfInBounds_toArray, List.set_cons_zero, List.set_cons_succ]
                refine held_on (i := 21) (d := (some 58)) (v := ?_) rfl rfl (by kernel_rfl) (by kernel_rfl) (by kernel_rfl) (fun _ _ _ h => h) (by rfl) hHeld ?_ ?_
                rotate_left
                focus (intro w hSw; have hSc := HSS.out w hSw; clear hSw; go_simp; first | done | with_reducible rfl)
                try simp only [Act.put, List.setIfInBounds_toArray, List.set_cons_zero, List.set_cons_succ]
                refine held_on (i := 22) (d := (some 59)) (v := ?_) rfl rfl (by kernel_rfl) (by kernel_rfl) (by kernel_rfl) (fun _ _ _ h => h) (by rfl) hHeld ?_ ?_
                rotate_left
                focus (intro w hSw; have hSc := HSS.out w hSw; clear hSw; go_simp; first | done | with_reducible rfl)
                try simp only [Act.put, List.setIfInBounds_toArray, List.set_cons_zero, List.set_cons_succ]
                refine held_on (i := 24) (d := (some 61)) (v := ?_) rfl rfl (by kernel_rfl) (by kernel_rfl) (by kernel_rfl) (fun _ _ _ h => h) (by rfl) hHeld ?_ ?_
                rotate_left
                focus (intro w hSw; have hSc := HSS.out w hSw; clear hSw; go_simp; first | done | with_reducible rfl)
                try simp only [Act.put, List.setIfInBounds_toArray, List.set_cons_zero, List.set_cons_succ]
                refine held_on (i := 25) (d := (some 62)) (v := ?_) rfl rfl (by kernel_rfl) (by kernel_rfl) (by kernel_rfl) (fun _ _ _ h => h) (by rfl) hHeld ?_ ?_
                rotate_left
                focus (intro w hSw; have hSc := HSS.out w hSw; clear hSw; go_simp; first | done | with_reducible rfl)
                try simp only [Act.put, List.setIfInBounds_toArray, List.set_cons_zero, List.set_cons_succ]
                refine held_on (i := 26) (d := (some 63)) (v := ?_) rfl rfl (by kernel_rfl) (by kernel_rfl) (by kernel_rfl) (fun _ _ _ h => h) (by rfl) hHeld ?_ ?_
                rotate_left
                focus (intro w hSw; have hSc := HSS.out w hSw; clear hSw; go_simp; first | done | with_reducible rfl)
                try simp only [Act.put, List.setIfInBounds_toArray, List.set_cons_zero, List.set_cons_succ]
                refine held_on (i := 27) (d := (some 64)) (v := ?_) rfl rfl (by kernel_rfl) (by kernel_rfl) (by kernel_rfl) (fun _ _ _ h => h) (by rfl) hHeld ?_ ?_
                rotate_left
                focus (intro w hSw; have hSc := HSS.out w hSw; clear hSw; go_simp; first | done | with_reducible rfl)
                try simp only [Act.put, List.setIfInBounds_toArray, List.set_cons_zero, List.set_cons_succ]
                refine held_call (i := 23) (by kernel_rfl) rfl (by rfl) (fun K hK => ?_)
                go_simp
                (refine (HCH.out _ hHeld).mono ?_; rintro e w4 ⟨rfl, hx4⟩)
                refine hK.out _ _ (hHeld.trans hx4) (fun hHeld => ?_)
                clear hK K
                try simp only [Act.put, List.setIfInBounds_toArray, List.set_cons_zero, List.set_cons_succ]
                refine held_call (i := 28) (by kernel_rfl) rfl (by rfl) (fun K hK => ?_)
                go_simp
                (refine (HC0.out _ hHeld).mono ?_; rintro e w5 ⟨rfl, hx5⟩)
                refine hK.out _ _ (hHeld.trans hx5) (fun hHeld => ?_)
                clear hK K
                try simp only [Act.put, List.setIfInBounds_toArray, List.set_cons_zero, List.set_cons_succ]
                refine held_on (i := 29) (d := (some 66)) (v := ?_) rfl rfl (by kernel_rfl) (by kernel_rfl) (by kernel_rfl) (fun _ _ _ h => h) (by rfl) hHeld ?_ ?_
                rotate_left
                focus (intro w hSw; have hSc := HSS.out w hSw; clear hSw; go_simp; first | done | with_reducible rfl)
                try simp only [Act.put, List.setIfInBounds_toArray, List.set_cons_zero, List.set_cons_succ]
                refine held_on (i := 30) (d := (some 67)) (v := ?_) rfl rfl (by kernel_rfl) (by kernel_rfl) (by kernel_rfl) (fun _ _ _ h => h) (by rfl) hHeld ?_ ?_
                rotate_left
                focus (intro w hSw; have hSc := HSS.out w hSw; clear hSw; go_simp; first | done | with_reducible rfl)
                try simp only [Act.put, List.setIfInBounds_toArray, List.set_cons_zero, List.set_cons_succ]
                refine wpAnyH_done (by kernel_rfl) ?_ _
                have HX2 := Lib.hid (HX.out.trans hHeld)
                clear hHeld hx2 hx3 hx4 hx5 hz3 hne
                go_wp2_with fail
                go_ret
                rw [HD2.out, HP.out, HDR.out, decide_eq_false HHH.out]
                exact ⟨by simp, HX2.out⟩
        · have g1 : ¬ (j : Int) < (ks.length : Int) := by omega
          obtain rfl : j = ks.length := by omega
          have hall : mayL H ks = true := by rw [hp, List.drop_length, mayL]
          have HM := Lib.hid (show mayS (.mk [] ks) = risesE (flatS (.mk [] ks)) by rw [HD2.out, hall, Bool.true_and])
          have hcf := HFL.out (by rw [HFLT.out]; have := mayL_flat ks H hall; omega)
          have HCF := Lib.hid hcf
          have c0 : wr.cell? ⟨w.heap.size, 0, none⟩ = some (.slice se.a 0 se.c) := hB.cell 0
          clear hp hB hX hall hcf
          go_wp2_with fail
          refine (HCF.out _ HX.out).mono ?_
          rintro e w2 ⟨s, xs, rfl, hxs, hrd, hvl, hfw, hx2⟩
          have HX2 := Lib.hid (HX.out.trans hx2)
          have HES := Lib.hid (show ES w2 (Lt w2.heap.size) s xs from ⟨hrd, fun x hx => ⟨(hvl x hx).1.mono fun i hi => Nat.lt_of_lt_of_le hi hx2.size, (hvl x hx).2⟩, hfw⟩)
          have HXS := Lib.hid hxs
          have hnl : xs.length ≤ 140737488355328 := by omega
          clear hx2 hrd hvl hxs
          go_wp2_with fail
          go_loopw [5] (fun i wr => ∃ q : Nat, i = .int .i64 ((q : Int) + 1) ∧ (q = 0 ∨ q + 1 ≤ xs.length) ∧ risesE (xs.map LE.ent) = risesE ((xs.map LE.ent).drop q) ∧ Ext w2 wr) (fun i _ => xs.length - (intOf i).toNat)
          case atStart => exact ⟨0, rfl, .inl rfl, rfl, Ext.refl w2⟩
          case round =>
            obtain ⟨q, rfl, hq, hp2, hX2⟩ := hrel
            have HP2 := Lib.hid hp2
            have HXX := Lib.hid hX2
            by_cases hlt2 : q + 1 < xs.length
            · have g3 : (q : Int) + 1 < (xs.length : Int) := by omega
              obtain ⟨x, hxx⟩ : ∃ x, xs[q]? = some x := ⟨_, List.getElem?_eq_getElem (by omega)⟩
              obtain ⟨y, hyy⟩ : ∃ y, xs[q + 1]? = some y := ⟨_, List.getElem?_eq_getElem hlt2⟩
              have HDD := Lib.hid (risesE_drop (l := xs.map LE.ent) (q := q) (a := x.ent) (b := y.ent) (by rw [List.getElem?_map, hxx]; rfl) (by rw [List.getElem?_map, hyy]; rfl))
              have e1 := HES.out.ext hX2
              obtain ⟨g, o, hg, lg, hc, hcm, kx, -, -, -⟩ := e1.at hxx
              obtain ⟨g', o', hg', -, -, -, ky, -, -, -⟩ := e1.at hyy
              rw [hg] at hg'
              obtain ⟨rfl, rfl⟩ : g = g' ∧ o = o' := by simpa using hg'
              obtain ⟨sa, sc⟩ := s
              dsimp only at hg hc hcm
              subst hg
              have lg : g < wr.heap.size := lg
              have hw1 : IntKind.i64.wrap ((q : Int) + 1 - 1) = (q : Int) := by rw [IntKind.wrap_i64]; omega
              have hw0 : IntKind.i64.wrap (q : Int) = (q : Int) := by rw [IntKind.wrap_i64]; omega
              have htn : ((q : Int) + 1).toNat = q + 1 := by omega
              have hq0 : (0 : Int) ≤ (q : Int) + 1 := by omega
              have hq1 : (q : Int) < (xs.length : Int) := by omega
              have HSK := Lib.hid (show ∀ W, Ext wr W → W.cell? ⟨g, o + q * 7, none⟩ = some (.string x.k) ∧ W.cell? ⟨g, o + (q + 1) * 7, none⟩ = some (.string y.k) from fun W hW => ⟨(hW.cell lg).trans kx, (hW.cell lg).trans ky⟩)
              clear hp2 hX2 hxx hyy e1 hg' kx ky hq
              cases hkl : klt x.k y.k with
              | true =>
                have hb1 : Op.bytesLess x.k.toList y.k.toList = true := hkl
                have HKL := Lib.hid hkl
                clear hkl
                go_wp2_with fail
                refine wp_region_held_drew (S := (fun w' => Ext wr w')) (by kernel_rfl) (((Ext.refl wr).drew)) (fun hHeld => ?_)
                refine held_on (i := 0) (d := (some 76)) (v := ?_) rfl rfl (by kernel_rfl) (by kernel_rfl) (by kernel_rfl) (fun _ _ _ h => h) (by rfl) hHeld ?_ ?_
                rotate_left
                focus (intro w hSw; have hSc := HSK.out w hSw; clear hSw; go_simp; first | done | with_reducible rfl)
                try simp only [Act.put, List.setIfInBounds_toArray, List.set_cons_zero, List.set_cons_succ]
                refine held_on (i := 1) (d := (some 77)) (v := ?_) rfl rfl (by kernel_rfl) (by kernel_rfl) (by kernel_rfl) (fun _ _ _ h => h) (by rfl) hHeld ?_ ?_
                rotate_left
                focus (intro w hSw; have hSc := HSK.out w hSw; clear hSw; go_simp; first | done | with_reducible rfl)
                try simp only [Act.put, List.setIfInBounds_toArray, List.set_cons_zero, List.set_cons_succ]
                refine held_on (i := 2) (d := (some 78)) (v := ?_) rfl rfl (by kernel_rfl) (by kernel_rfl) (by kernel_rfl) (fun _ _ _ h => h) (by rfl) hHeld ?_ ?_
                rotate_left
                focus (intro w hSw; have hSc := HSK.out w hSw; clear hSw; go_simp; first | done | with_reducible rfl)
                try simp only [Act.put, List.setIfInBounds_toArray, List.set_cons_zero, List.set_cons_succ]
                refine held_on (i := 3) (d := (some 79)) (v := ?_) rfl rfl (by kernel_rfl) (by kernel_rfl) (by kernel_rfl) (fun _ _ _ h => h) (by rfl) hHeld ?_ ?_
                rotate_left
                focus (intro w hSw; have hSc := HSK.out w hSw; clear hSw; go_simp; first | done | with_reducible rfl)
                try simp only [Act.put, List.setIfInBounds_toArray, List.set_cons_zero, List.set_cons_succ]
                refine held_on (i := 4) (d := (some 80)) (v := ?_) rfl rfl (by kernel_rfl) (by kernel_rfl) (by kernel_rfl) (fun _ _ _ h => h) (by rfl) hHeld ?_ ?_
                rotate_left
                focus (intro w hSw; have hSc := HSK.out w hSw; clear hSw; go_simp; first | done | with_reducible rfl)
                try simp only [Act.put, List.setIfInBounds_toArray, List.set_cons_zero, List.set_cons_succ]
                refine held_on (i := 5) (d := (some 81)) (v := ?_) rfl rfl (by kernel_rfl) (by kernel_rfl) (by kernel_rfl) (fun _ _ _ h => h) (by rfl) hHeld ?_ ?_
                rotate_left
                focus (intro w hSw; have hSc := HSK.out w hSw; clear hSw; go_simp; first | done | with_reducible rfl)
                try simp only [Act.put, List.setIfInBounds_toArray, List.set_cons_zero, List.set_cons_succ]
                refine held_on (i := 6) (d := (some 82)) (v := ?_) rfl rfl (by kernel_rfl) (by kernel_rfl) (by kernel_rfl) (fun _ _ _ h => h) (by rfl) hHeld ?_ ?_
                rotate_left
                focus (intro w hSw; have hSc := HSK.out w hSw; clear hSw; go_simp; first | done | with_reducible rfl)
                try simp only [Act.put, List.setIfInBounds_toArray, List.set_cons_zero, List.set_cons_succ]
                refine held_on (i := 7) (d := (some 83)) (v := ?_) rfl rfl (by kernel_rfl) (by kernel_rfl) (by kernel_rfl) (fun _ _ _ h => h) (by rfl) hHeld ?_ ?_
                rotate_left
                focus (intro w hSw; have hSc := HSK.out w hSw; clear hSw; go_simp; first | done | with_reducible rfl)
                try simp only [Act.put, List.setIfInBounds_toArray, List.set_cons_zero, List.set_cons_succ]
                refine held_on (i := 8) (d := (some 84)) (v := ?_) rfl rfl (by kernel_rfl) (by kernel_rfl) (by kernel_rfl) (fun _ _ _ h => h) (by rfl) hHeld ?_ ?_
                rotate_left
                focus (intro w hSw; have hSc := HSK.out w hSw; clear hSw; go_simp; first | done | with_reducible rfl)
                try simp only [Act.put, List.setIfInBounds_toArray, List.set_cons_zero, List.set_cons_succ]
                refine held_on (i := 9) (d := (some 85)) (v := ?_) rfl rfl (by kernel_rfl) (by kernel_rfl) (by kernel_rfl) (fun _ _ _ h => h) (by rfl) hHeld ?_ ?_
                rotate_left
                focus (intro w hSw; have hSc := HSK.out w hSw; clear hSw; go_simp; first | done | with_reducible rfl)
                try simp only [Act.put, List.setIfInBounds_toArray, List.set_cons_zero, List.set_cons_succ]
                refine held_on (i := 10) (d := (some 86)) (v := ?_) rfl rfl (by kernel_rfl) (by kernel_rfl) (by kernel_rfl) (fun _ _ _ h => h) (by rfl) hHeld ?_ ?_
                rotate_left
                focus (intro w hSw; have hSc := HSK.out w hSw; clear hSw; go_simp; first | done | with_reducible rfl)
                try simp only [Act.put, List.setIfInBounds_toArray, List.set_cons_zero, List.set_cons_succ]
                refine held_on (i := 11) (d := (some 87)) (v := ?_) rfl rfl (by kernel_rfl) (by kernel_rfl) (by kernel_rfl) (fun _ _ _ h => h) (by rfl) hHeld ?_ ?_
                rotate_left
                focus (intro w hSw; have hSc := HSK.out w hSw; clear hSw; go_simp; first | done | with_reducible rfl)
                try simp only [Act.put, List.setIfInBounds_toArray, List.set_cons_zero, List.set_cons_succ]
                refine wpAnyH_done (by kernel_rfl) ?_ _
                have HX3 := Lib.hid (HXX.out.trans hHeld)
                clear hHeld hw1 hw0 htn hb1
                go_wp2_with fail
                go_roundw
                case rel => exact ⟨q + 1, by go_num, .inr hlt2, by rw [HP2.out, HDD.out, show klt x.ent.1 y.ent.1 = true from HKL.out, Bool.true_and], HX3.out⟩
                case measure => simp [intOf]; omega
              | false =>
                have hb1 : Op.bytesLess x.k.toList y.k.toList = false := hkl
                have HKL := Lib.hid hkl
                clear hkl
                go_wp2_with fail
                refine wp_region_held_drew (S := (fun w' => Ext wr w')) (by kernel_rfl) (((Ext.refl wr).drew)) (fun hHeld => ?_)
                refine held_on (i := 0) (d := (some 76)) (v := ?_) rfl rfl (by kernel_rfl) (by kernel_rfl) (by kernel_rfl) (fun _ _ _ h => h) (by rfl) hHeld ?_ ?_
                rotate_left
                focus (intro w hSw; have hSc := HSK.out w hSw; clear hSw; go_simp; first | done | with_reducible rfl)
                try simp only [Act.put, List.setIfInBounds_toArray, List.set_cons_zero, List.set_cons_succ]
                refine held_on (i := 1) (d := (some 77)) (v := ?_) rfl rfl (by kernel_rfl) (by kernel_rfl) (by kernel_rfl) (fun _ _ _ h => h) (by rfl) hHeld ?_ ?_
                rotate_left
                focus (intro w hSw; have hSc := HSK.out w hSw; clear hSw; go_simp; first | done | with_reducible rfl)
                try simp only [Act.put, List.setIfInBounds_toArray, List.set_cons_zero, List.set_cons_succ]
                refine held_on (i := 2) (d := (some 78)) (v := ?_) rfl rfl (by kernel_rfl) (by kernel_rfl) (by kernel_rfl) (fun _ _ _ h => h) (by rfl) hHeld ?_ ?_
                rotate_left
                focus (intro w hSw; have hSc := HSK.out w hSw; clear hSw; go_simp; first | done | with_reducible rfl)
                try simp only [Act.put, List.setIfInBounds_toArray, List.set_cons_zero, List.set_cons_succ]
                refine held_on (i := 3) (d := (some 79)) (v := ?_) rfl rfl (by kernel_rfl) (by kernel_rfl) (by kernel_rfl) (fun _ _ _ h => h) (by rfl) hHeld ?_ ?_
                rotate_left
                focus (intro w hSw; have hSc := HSK.out w hSw; clear hSw; go_simp; first | done | with_reducible rfl)
                try simp only [Act.put, List.setIfInBounds_toArray, List.set_cons_zero, List.set_cons_succ]
                refine held_on (i := 4) (d := (some 80)) (v := ?_) rfl rfl (by kernel_rfl) (by kernel_rfl) (by kernel_rfl) (fun _ _ _ h => h) (by rfl) hHeld ?_ ?_
                rotate_left
                focus (intro w hSw; have hSc := HSK.out w hSw; clear hSw; go_simp; first | done | with_reducible rfl)
                try simp only [Act.put, List.setIfInBounds_toArray, List.set_cons_zero, List.set_cons_succ]
                refine held_on (i := 5) (d := (some 81)) (v := ?_) rfl rfl (by kernel_rfl) (by kernel_rfl) (by kernel_rfl) (fun _ _ _ h => h) (by rfl) hHeld ?_ ?_
                rotate_left
                focus (intro w hSw; have hSc := HSK.out w hSw; clear hSw; go_simp; first | done | with_reducible rfl)
                try simp only [Act.put, List.setIfInBounds_toArray, List.set_cons_zero, List.set_cons_succ]
                refine held_on (i := 6) (d := (some 82)) (v := ?_) rfl rfl (by kernel_rfl) (by kernel_rfl) (by kernel_rfl) (fun _ _ _ h => h) (by rfl) hHeld ?_ ?_
                rotate_left
                focus (intro w hSw; have hSc := HSK.out w hSw; clear hSw; go_simp; first | done | with_reducible rfl)
                try simp only [Act.put, List.setIfInBounds_toArray, List.set_cons_zero, List.set_cons_succ]
                refine held_on (i := 7) (d := (some 83)) (v := ?_) rfl rfl (by kernel_rfl) (by kernel_rfl) (by kernel_rfl) (fun _ _ _ h => h) (by rfl) hHeld ?_ ?_
                rotate_left
                focus (intro w hSw; have hSc := HSK.out w hSw; clear hSw; go_simp; first | done | with_reducible rfl)
                try simp only [Act.put, List.setIfInBounds_toArray, List.set_cons_zero, List.set_cons_succ]
                refine held_on (i := 8) (d := (some 84)) (v := ?_) rfl rfl (by kernel_rfl) (by kernel_rfl) (by kernel_rfl) (fun _ _ _ h => h) (by rfl) hHeld ?_ ?_
                rotate_left
                focus (intro w hSw; have hSc := HSK.out w hSw; clear hSw; go_simp; first | done | with_reducible rfl)
                try simp only [Act.put, List.setIfInBounds_toArray, List.set_cons_zero, List.set_cons_succ]
                refine held_on (i := 9) (d := (some 85)) (v := ?_) rfl rfl (by kernel_rfl) (by kernel_rfl) (by kernel_rfl) (fun _ _ _ h => h) (by rfl) hHeld ?_ ?_
                rotate_left
                focus (intro w hSw; have hSc := HSK.out w hSw; clear hSw; go_simp; first | done | with_reducible rfl)
                try simp only [Act.put, List.setIfInBounds_toArray, List.set_cons_zero, List.set_cons_succ]
                refine held_on (i := 10) (d := (some 86)) (v := ?_) rfl rfl (by kernel_rfl) (by kernel_rfl) (by kernel_rfl) (fun _ _ _ h => h) (by rfl) hHeld ?_ ?_
                rotate_left
                focus (intro w hSw; have hSc := HSK.out w hSw; clear hSw; go_simp; first | done | with_reducible rfl)
                try simp only [Act.put, List.setIfInBounds_toArray, List.set_cons_zero, List.set_cons_succ]
                refine held_on (i := 11) (d := (some 87)) (v := ?_) rfl rfl (by kernel_rfl) (by kernel_rfl) (by kernel_rfl) (fun _ _ _ h => h) (by rfl) hHeld ?_ ?_
                rotate_left
                focus (intro w hSw; have hSc := HSK.out w hSw; clear hSw; go_simp; first | done | with_reducible rfl)
                try simp only [Act.put, List.setIfInBounds_toArray, List.set_cons_zero, List.set_cons_succ]
                refine wpAnyH_done (by kernel_rfl) ?_ _
                have HX3 := Lib.hid (HXX.out.trans hHeld)
                clear hHeld hw1 hw0 htn hb1
                go_wp2_with fail
                go_ret
                rw [HM.out, ← HXS.out, HP2.out, HDD.out, show klt x.ent.1 y.ent.1 = false from HKL.out]
                exact ⟨by simp, HX2.out.trans HX3.out⟩
            · have g3 : ¬ (q : Int) + 1 < (xs.length : Int) := by omega
              have hend := risesE_end (l := xs.map LE.ent) (q := q) (by rw [List.length_map]; omega)
              have HEND := Lib.hid hend
              clear hp2 hX2 hend hq
              go_wp2_with fail
              go_ret
              rw [HM.out, ← HXS.out, HP2.out, HEND.out]
              exact ⟨rfl, HX2.out.trans HXX.out⟩
    · have hel : 0 < es.length := List.length_pos_iff.2 he0
      have g0 : (0 : Int) < (es.length : Int) := by omega
      have hemp : es.isEmpty = false := by simpa using he0
      rw [HD.out, hemp]
      clear hemp he0
      go_enter Try.func7, Try.ntmps7
      go_wp2_with fail
      go_ret
      exact ⟨by simp, HX0.out⟩
end Go.Proofs.Ytohajcflklejjaa
namespace Go.Proofs.Ytohajcflklejjaa
open Go.RowKit
set_option linter.unusedVariables false
set_option linter.unusedSimpArgs false
theorem PutR.mono {A B : Nat} (hAB : A ≤ B) {k : ByteArray} {v : Val} {T T' : RT} (h : PutR B k v T T') : PutR A k v T T' := by
  cases h with
  | one hw => exact .one (hw.mono hAB)
  | two hw hc hb => exact .two (hw.mono hAB) hc (Nat.le_trans hAB hb)
def StepR (B : Nat) (kd : Int) (k : ByteArray) (v : Val) (T T' : RT) : Prop :=
  (kd = 1 ∧ PutR B k v T T') ∨ (kd = 2 ∧ DelT B k T T') ∨ (kd ≠ 1 ∧ kd ≠ 2 ∧ T' = T)
def stepE (kd : Int) (k : ByteArray) (v : Val) (es : List Ent) : List Ent := if kd = 1 then insE es k v else if kd = 2 then delE es k else es
theorem StepR.ents {B : Nat} {kd : Int} {k : ByteArray} {v : Val} {T T' : RT} (h : StepR B kd k v T T') (ok : OkR T) : entsT T' = stepE kd k v (entsT T) := by
  rcases h with ⟨rfl, h⟩ | ⟨rfl, h⟩ | ⟨h1, h2, rfl⟩
  · simp [stepE, h.ents ok]
  · simp [stepE, h.ents ok]
  · simp [stepE, h1, h2]
theorem StepR.ok {B : Nat} {kd : Int} {k : ByteArray} {v : Val} {T T' : RT} (h : StepR B kd k v T T') (ok : OkR T) : OkR T' := by
  rcases h with ⟨rfl, h⟩ | ⟨rfl, h⟩ | ⟨h1, h2, rfl⟩
  · exact h.ok ok
  · exact h.ok ok
  · exact ok
theorem stepE_len (kd : Int) (k : ByteArray) (v : Val) (es : List Ent) : (stepE kd k v es).length ≤ es.length + 1 := by
  unfold stepE
  split
  · rcases insE_len es k v with h | h <;> omega
  · split
    · have := (delE_sublist es k).length_le; omega
    · omega
abbrev aggA (a : LA) : Value := .agg #[.int .i64 a.kd, .string a.k, .int .i64 a.v.kind, .bool a.v.b, .int .i64 a.v.i, .string a.v.t, .slice a.sl.a a.v.l.length a.sl.c, .slice a.so.a a.v.ok.length a.so.c]
def DoPost (H : Nat → Prop) (M : Nat) (T : RT) (a : LA) (w : World) (e : Ending) (w' : World) : Prop :=
  ∃ T', e = .returned (.tuple #[treeV T', .int .i64 1]) ∧ StepR w.heap.size a.kd a.k a.v T T' ∧ IsT w' (NH H w') T' ∧ MapAt H w' M (entsT T') ∧ St (fun b => b = M) w w'
theorem MapAt.wide {H : Nat → Prop} {w : World} {M : Nat} {es : List Ent} (h : MapAt H w M es) (N : Nat) : MapAt (fun b => H b ∨ (w.heap.size ≤ b ∧ b < N)) w M es :=
  h.more (fun b hb => .inl hb) fun b hb hg => hg.elim id fun hh => by omega
theorem MapAt.less {G H : Nat → Prop} {w : World} {M : Nat} {es : List Ent} (h : MapAt G w M es) (hG : ∀ b, H b → G b) (hm : H M) : MapAt H w M es := by
  obtain ⟨-, s, xs, hb, hs, hx⟩ := h
  exact ⟨hm, s, xs, hb, hs.mono fun i hi => ⟨hi.1, fun hg => hi.2 (hG i hg)⟩, hx⟩
section
variable {H : Nat → Prop} {w : World} {M : Nat} {T : RT} {a : LA}
theorem NH.st {H : Nat → Prop} {w w' : World} {M : Nat} (h : St (fun b => b = M) w w') (hm : H M) {b : Nat} (hb : NH H w b) : NH H w' b := ⟨Nat.lt_of_lt_of_le hb.1 h.size, hb.2⟩
theorem NH.agree {H : Nat → Prop} {w w' : World} {M : Nat} (h : St (fun b => b = M) w w') (hm : H M) : Agree (NH H w) w w' := fun b hb => h.block b hb.1 fun e => hb.2 (e ▸ hm)
theorem three_act (w : World) (p : Option Addr) (a : LA) (W : World) (h : ((w.alloc (.cells #[.pointer p] 32)).alloc (.cells #[.int .i64 a.kd, .string a.k, .int .i64 a.v.kind, .bool a.v.b, .int .i64 a.v.i, .string a.v.t, .slice a.sl.a a.v.l.length a.sl.c, .slice a.so.a a.v.ok.length a.so.c] 53)).alloc (.cells #[.pointer none] 32) = W) :
    Ext w W ∧ W.heap.size = w.heap.size + 3 ∧ Blk W w.heap.size 32 #[.pointer p] ∧ Blk W (w.heap.size + 1) 53 #[.int .i64 a.kd, .string a.k, .int .i64 a.v.kind, .bool a.v.b, .int .i64 a.v.i, .string a.v.t, .slice a.sl.a a.v.l.length a.sl.c, .slice a.so.a a.v.ok.length a.so.c] ∧ Blk W (w.heap.size + 1 + 1) 32 #[.pointer none] :=
  three_blocks w _ _ _ _ _ _ W h
set_option maxRecDepth 100000 in
set_option maxHeartbeats 2000000 in
theorem do_put (hk1 : a.kd = 1) (hH : ∀ b, H b → b < w.heap.size) (hM : MapAt H w M (entsT T)) (hT : IsT w (NH H w) T) (ok : OkR T) (hc : (entsT T).length ≤ 900000) (hk : a.k.size ≤ maxLen) (hv : RV w (NH H w) a.v a.sl a.so) :
    Calls Try.prog 13 #[treeV T, .pointer (some ⟨M, 0, none⟩), aggA a] w (DoPost H M T a w) := by
  have hm := hM.hm
  have lM : M < w.heap.size := hH M hm
  have hput : ∀ W, Ext w W → Calls Try.prog 24 #[.pointer (some ⟨M, 0, none⟩), .string a.k, aggV a.v a.sl a.so] W (Put7Post (fun b => H b ∨ (w.heap.size ≤ b ∧ b < W.heap.size)) M (insE (entsT T) a.k a.v) W) := fun W hW =>
    put7_any ((hM.wide _).ext hW) (fun b hb => hb.elim (fun hb => Nat.lt_of_lt_of_le (hH b hb) hW.size) fun hb => hb.2) ok.sorted (by omega) hk ((hv.agree (hW.agree fun b hb => hb.1)).mono fun b hb => ⟨Nat.lt_of_lt_of_le hb.1 hW.size, fun hh => hh.elim hb.2 fun hh => by have := hb.1; omega⟩)
  have htp : ∀ W, St (fun b => b = M) w W → Calls Try.prog 25 #[treeV T, .string a.k, aggV a.v a.sl a.so] W (PutPost (NH H w) T a.k a.v W) := fun W hW =>
    put_any (fun b hb => Nat.lt_of_lt_of_le hb.1 hW.size) (hT.agree (NH.agree hW hm)) ok (by omega) hk ((hv.agree (NH.agree hW hm)).mono fun b hb => Nat.lt_of_lt_of_le hb.1 hW.size)
  obtain ⟨p, hp⟩ := rootV_ptr T
  have HPUT := Lib.hid hput
  have HTP := Lib.hid htp
  have HH := Lib.hid hH
  have HOK := Lib.hid ok
  have HP := Lib.hid hp
  rw [treeV, hp] at htp ⊢
  have HTQ := Lib.hid htp
  have hkd : a.kd = 1 := hk1
  have hmm := hm
  clear hput htp hH hM hT ok hv hp HTP
  obtain ⟨kd, k, v, sl, so⟩ := a
  dsimp only at hkd hk HPUT HTQ
  subst hkd
  clear hk1
  go_enter Try.func13, Try.ntmps13
  go_wp2_with fail
  generalize hW0 : World.alloc (World.alloc (World.alloc _ _) _) _ = W0
  obtain ⟨hx0, hz0, hb0, hb1, hb2⟩ := three_act w p ⟨1, k, v, sl, so⟩ W0 hW0
  clear hW0
  refine (HPUT.out W0 hx0).mono ?_
  rintro e w1 ⟨⟨r, rfl⟩, hm1, hst1⟩
  have hne0 : ¬ w.heap.size = M := by omega
  have hne1 : ¬ w.heap.size + 1 = M := by omega
  have hne2 : ¬ w.heap.size + 1 + 1 = M := by omega
  replace hb0 := hst1.blk hb0 hne0
  replace hb1 := hst1.blk hb1 hne1
  replace hb2 := hst1.blk hb2 hne2
  have hs1 : St (fun b => b = M) w w1 := (hx0.st _).trans hst1
  have q0 : w1.cell? ⟨w.heap.size, 0, none⟩ = some (.pointer p) := hb0.cell 0
  have q1 : w1.cell? ⟨w.heap.size + 1, 1, none⟩ = some (.string k) := hb1.cell 1
  have q2 : w1.cell? ⟨w.heap.size + 1, 2, none⟩ = some (.int .i64 v.kind) := hb1.cell 2
  have q3 : w1.cell? ⟨w.heap.size + 1, 3, none⟩ = some (.bool v.b) := hb1.cell 3
  have q4 : w1.cell? ⟨w.heap.size + 1, 4, none⟩ = some (.int .i64 v.i) := hb1.cell 4
  have q5 : w1.cell? ⟨w.heap.size + 1, 5, none⟩ = some (.string v.t) := hb1.cell 5
  have q6 : w1.cell? ⟨w.heap.size + 1, 6, none⟩ = some (.slice sl.a v.l.length sl.c) := hb1.cell 6
  have q7 : w1.cell? ⟨w.heap.size + 1, 7, none⟩ = some (.slice so.a v.ok.length so.c) := hb1.cell 7
  have HS1 := Lib.hid hs1
  have HM1 := Lib.hid hm1
  have HB2 := Lib.hid hb2
  have hsz1 := hs1.size
  have hsz3 : w.heap.size + 3 ≤ w1.heap.size := by have := hst1.size; omega
  clear hx0 hm1 hst1 hb0 hb1 hb2 hs1
  go_wp2_with fail
  refine (HTQ.out w1 HS1.out).mono ?_
  rintro e w2 ⟨T', rfl, hpr, hT', hx2⟩
  obtain ⟨p', hp'⟩ := rootV_ptr T'
  rw [treeV, hp']
  have hb2 := HB2.out.ext hx2
  have c2 : w2.cell? ⟨w.heap.size + 1 + 1, 0, none⟩ = some (.pointer none) := hb2.cell 0
  have f2 := hb2.frozen 0
  have l2 := hb2.lt
  have HP' := Lib.hid hp'
  have HPR := Lib.hid hpr
  have HT' := Lib.hid hT'
  have HX2 := Lib.hid hx2
  clear hp' hpr hT' hx2 hb2 q0 q1 q2 q3 q4 q5 q6 q7
  go_wp2_with fail
  have qq : (w2.setCell ⟨w.heap.size + 1 + 1, 0, none⟩ (.pointer p')).cell? ⟨w.heap.size + 1 + 1, 0, none⟩ = some (.pointer p') := World.cell?_setCell_same w2 _ _ c2
  refine bodyPost_ret (v := .tuple #[.agg #[.pointer p'], .int .i64 1]) (by simp [results, Try.results13, go_sem, qq]) rfl ?_
  have hents := HPR.out.ents HOK.out
  have hst : St (fun b => b = M) w (w2.setCell ⟨w.heap.size + 1 + 1, 0, none⟩ (.pointer p')) := (HS1.out.ext HX2.out).set (p := ⟨w.heap.size + 1 + 1, 0, none⟩) (.inl (by show w.heap.size ≤ w.heap.size + 1 + 1; omega)) _
  have hH1 : ∀ b, H b → b < w1.heap.size := fun b hb => Nat.lt_of_lt_of_le (HH.out b hb) hsz1
  have hset : St (fun b => b = w.heap.size + 1 + 1) w2 (w2.setCell ⟨w.heap.size + 1 + 1, 0, none⟩ (.pointer p')) := (St.refl (fun b => b = w.heap.size + 1 + 1) w2).set (p := ⟨w.heap.size + 1 + 1, 0, none⟩) (.inr rfl) _
  refine ⟨T', by rw [treeV, HP'.out], .inl ⟨rfl, HPR.out.mono hsz1⟩, ?_, ?_, hst⟩
  · refine (HT'.out.agree (Agree.setCell w2 ⟨w.heap.size + 1 + 1, 0, none⟩ _ ?_)).mono fun i hi => ?_
    · rintro (hf | hf)
      · have : w.heap.size + 1 + 1 < w.heap.size := hf.1
        omega
      · have : w1.heap.size ≤ w.heap.size + 1 + 1 := hf.1
        omega
    · have hs2 := HX2.out.size
      rw [NH, World.size_setCell]
      rcases hi with hi | hi
      · exact ⟨by have := hi.1; omega, hi.2⟩
      · exact ⟨hi.2, fun hh => by have := HH.out i hh; have := hi.1; omega⟩
  · rw [hents]
    exact ((HM1.out.ext HX2.out).st hset (fun b hb => .inr (by subst hb; omega)) (fun e => hne2 e.symm)).less (fun b hb => .inl hb) hmm
theorem DelT.none {B : Nat} {k : ByteArray} {T T' : RT} (hd : DelT B k T T') (hg : (getE (entsT T) k).isSome = false) : T' = T := by
  cases hd with
  | no h => rfl
  | same h1 => rw [show getE (entsT _) k = _ from rfl] at hg; rw [getE_entsT] at hg; rw [h1] at hg; cases hg
  | gone h1 => rw [getE_entsT] at hg; rw [h1] at hg; cases hg
  | down h1 => rw [getE_entsT] at hg; rw [h1] at hg; cases hg
set_option maxRecDepth 100000 in
set_option maxHeartbeats 2000000 in
theorem do_del (hk1 : a.kd = 2) (hH : ∀ b, H b → b < w.heap.size) (hM : MapAt H w M (entsT T)) (hT : IsT w (NH H w) T) (ok : OkR T) (hc : (entsT T).length ≤ 900000) :
    Calls Try.prog 13 #[treeV T, .pointer (some ⟨M, 0, none⟩), aggA a] w (DoPost H M T a w) := by
  have hm := hM.hm
  have lM : M < w.heap.size := hH M hm
  have hmd : ∀ W, Ext w W → Calls Try.prog 27 #[.pointer (some ⟨M, 0, none⟩), .string a.k] W (Del7Post (fun b => H b ∨ (w.heap.size ≤ b ∧ b < W.heap.size)) M (entsT T) a.k W) := fun W hW =>
    del7_any ((hM.wide _).ext hW) (fun b hb => hb.elim (fun hb => Nat.lt_of_lt_of_le (hH b hb) hW.size) fun hb => hb.2) ok.sorted (by omega) a.k
  have htp : ∀ W, Ext w W → Calls Try.prog 26 #[treeV T, .string a.k] W (DelPost (NH H w) T a.k W) := fun W hW =>
    delete_any (fun b hb => Nat.lt_of_lt_of_le hb.1 hW.size) (hT.agree (hW.agree fun b hb => hb.1)) ok (by omega) a.k
  obtain ⟨p, hp⟩ := rootV_ptr T
  have HMD := Lib.hid hmd
  have HH := Lib.hid hH
  have HOK := Lib.hid ok
  have HP := Lib.hid hp
  rw [treeV, hp] at htp ⊢
  have HTQ := Lib.hid htp
  have hkd : a.kd = 2 := hk1
  have hmm := hm
  clear hmd htp hH hM hT ok hp
  obtain ⟨kd, k, v, sl, so⟩ := a
  dsimp only at hkd HMD HTQ
  subst hkd
  clear hk1
  go_enter Try.func13, Try.ntmps13
  go_wp2_with fail
  generalize hW0 : World.alloc (World.alloc (World.alloc _ _) _) _ = W0
  obtain ⟨hx0, hz0, hb0, hb1, hb2⟩ := three_act w p ⟨2, k, v, sl, so⟩ W0 hW0
  clear hW0
  refine (HTQ.out W0 hx0).mono ?_
  rintro e w1 ⟨T', rfl, hd, hT', hx1⟩
  obtain ⟨p', hp'⟩ := rootV_ptr T'
  rw [treeV, hp']
  have hx2 : Ext w1 (w1.alloc (.cells #[.pointer p'] 32)) := (Ext.refl w1).alloc _ _
  have hb8 := Blk.new w1 32 #[.pointer p']
  replace hb0 := (hb0.ext hx1).ext hx2
  replace hb1 := (hb1.ext hx1).ext hx2
  replace hb2 := (hb2.ext hx1).ext hx2
  have q1 : (w1.alloc (.cells #[.pointer p'] 32)).cell? ⟨w.heap.size + 1, 1, none⟩ = some (.string k) := hb1.cell 1
  have hsz1 : w.heap.size + 3 ≤ w1.heap.size := by have := hx1.size; omega
  have HX2 := Lib.hid ((hx0.trans hx1).trans hx2)
  have HD := Lib.hid hd
  have HT' := Lib.hid hT'
  have HP' := Lib.hid hp'
  have HXX := Lib.hid hx2
  clear hd hT' hp' hx0 hx1
  have hs2 : w1.heap.size + 1 = (w1.alloc (.cells #[.pointer p'] 32)).heap.size := by simp
  go_wp2_with fail
  generalize w1.alloc (.cells #[.pointer p'] 32) = W2 at *
  refine (HMD.out W2 HX2.out).mono ?_
  rintro e w3 ⟨rfl, hm3, hst3⟩
  have hne0 : ¬ w.heap.size = M := by omega
  have hne2 : ¬ w.heap.size + 1 + 1 = M := by omega
  have hne8 : ¬ w1.heap.size = M := by omega
  replace hb0 := hst3.blk hb0 hne0
  replace hb2 := hst3.blk hb2 hne2
  replace hb8 := hst3.blk hb8 hne8
  have hs3 : St (fun b => b = M) w w3 := (HX2.out.st _).trans hst3
  have HS3 := Lib.hid hs3
  have HM3 := Lib.hid hm3
  have HST3 := Lib.hid hst3
  have hsz3 := hst3.size
  clear hs3 hm3 hst3 hb1 hx2 q1
  have hfin : ∀ (w4 : World) (T2 : RT) (pp : Option Addr), T2 = T' → rootV T2 = .pointer pp → Ext w3 w4 → DoPost H M T ⟨2, k, v, sl, so⟩ w (.returned (.tuple #[.agg #[.pointer pp], .int .i64 1])) (w4.setCell ⟨w.heap.size + 1 + 1, 0, none⟩ (.pointer pp)) := by
    intro w4 T2 pp hTe hpp hx4
    subst hTe
    have hents := HD.out.ents HOK.out
    have hst : St (fun b => b = M) w (w4.setCell ⟨w.heap.size + 1 + 1, 0, none⟩ (.pointer pp)) := (HS3.out.ext hx4).set (p := ⟨w.heap.size + 1 + 1, 0, none⟩) (.inl (by show w.heap.size ≤ w.heap.size + 1 + 1; omega)) _
    have hset : St (fun b => b = w.heap.size + 1 + 1) w4 (w4.setCell ⟨w.heap.size + 1 + 1, 0, none⟩ (.pointer pp)) := (St.refl (fun b => b = w.heap.size + 1 + 1) w4).set (p := ⟨w.heap.size + 1 + 1, 0, none⟩) (.inr rfl) _
    have hs4 := hx4.size
    refine ⟨T2, by rw [treeV, hpp], .inr (.inl ⟨rfl, HD.out.mono (by omega)⟩), ?_, ?_, hst⟩
    · have hAg : Agree (Up (NH H w) W0 w1) w1 (w4.setCell ⟨w.heap.size + 1 + 1, 0, none⟩ (.pointer pp)) := by
        have hlt : ∀ b, Up (NH H w) W0 w1 b → b < w1.heap.size ∧ b ≠ M ∧ b ≠ w.heap.size + 1 + 1 := fun b hb => by
          rcases hb with hb | hb
          · have := hb.1
            exact ⟨by omega, fun e => hb.2 (e ▸ hmm), by omega⟩
          · exact ⟨hb.2, by omega, by omega⟩
        intro b hb
        obtain ⟨h1, h2, h3⟩ := hlt b hb
        exact (hset.block b (by omega) h3).trans ((hx4.heap (by omega)).trans ((HST3.out.block b (by omega) h2).trans (HXX.out.heap h1)))
      refine (HT'.out.agree hAg).mono fun i hi => ?_
      rw [NH, World.size_setCell]
      rcases hi with hi | hi
      · exact ⟨by have := hi.1; omega, hi.2⟩
      · exact ⟨by have := hi.2; omega, fun hh => by have := HH.out i hh; have := hi.1; omega⟩
    · rw [hents]
      exact ((HM3.out.ext hx4).st hset (fun b hb => .inr (by subst hb; omega)) (fun e => hne2 e.symm)).less (fun b hb => .inl hb) hmm
  have HFIN := Lib.hid hfin
  clear hfin
  have c2 : w3.cell? ⟨w.heap.size + 1 + 1, 0, none⟩ = some (.pointer none) := hb2.cell 0
  have f2 := hb2.frozen 0
  have l2 := hb2.lt
  have c8 : w3.cell? ⟨w1.heap.size, 0, none⟩ = some (.pointer p') := hb8.cell 0
  have l8 := hb8.lt
  have c0 : w3.cell? ⟨w.heap.size, 0, none⟩ = some (.pointer p) := hb0.cell 0
  have l0 := hb0.lt
  clear hb0 hb2 hb8
  cases hg : (getE (entsT T) k).isSome with
  | true =>
    clear hg
    go_wp2_with fail
    have qq : (w3.setCell ⟨w.heap.size + 1 + 1, 0, none⟩ (.pointer p')).cell? ⟨w.heap.size + 1 + 1, 0, none⟩ = some (.pointer p') := World.cell?_setCell_same w3 _ _ c2
    refine bodyPost_ret (v := .tuple #[.agg #[.pointer p'], .int .i64 1]) (by simp [results, Try.results13, go_sem, qq]) rfl ?_
    exact HFIN.out w3 T' p' rfl HP'.out (Ext.refl w3)
  | false =>
    obtain rfl := HD.out.none hg
    have hpp : p' = p := by have := HP'.out; rw [HP.out] at this; simpa using this.symm
    subst hpp
    clear hg
    go_wp2_with fail
    refine (is_same w3 p').mono ?_
    rintro e w4 ⟨rfl, hx4⟩
    replace c2 := (hx4.cell l2).trans c2
    replace f2 := (hx4.frozen (o := 0) l2).trans f2
    replace c8 := (hx4.cell l8).trans c8
    replace l2 := Nat.lt_of_lt_of_le l2 hx4.size
    have HX4 := Lib.hid hx4
    clear hx4 c0 l0
    go_wp2_with fail
    have qq : (w4.setCell ⟨w.heap.size + 1 + 1, 0, none⟩ (.pointer p')).cell? ⟨w.heap.size + 1 + 1, 0, none⟩ = some (.pointer p') := World.cell?_setCell_same w4 _ _ c2
    refine bodyPost_ret (v := .tuple #[.agg #[.pointer p'], .int .i64 1]) (by simp [results, Try.results13, go_sem, qq]) rfl ?_
    exact HFIN.out w4 _ p' rfl HP'.out HX4.out
theorem es_one {w : World} {g : Nat} {x : LE} (hb : Blk w g 63 x.cells.toArray) (hv : RV w (Lt w.heap.size) x.v x.sl x.so) (hk : x.k.size ≤ maxLen) : ES w (Lt w.heap.size) ⟨some ⟨g, 0, none⟩, 1⟩ [x] :=
  ⟨(Rd.block (cs := flatE [x]) (by simpa [flatE] using hb) (by decide) (by simp [flatE, LE.cells])).mono fun i hi => by subst hi; exact hb.lt, fun y hy => by obtain rfl := List.mem_singleton.1 hy; exact ⟨hv, hk⟩, by simp⟩
set_option maxRecDepth 100000 in
set_option maxHeartbeats 2000000 in
theorem do_get (hk1 : a.kd ≠ 1) (hk2 : a.kd ≠ 2) (hH : ∀ b, H b → b < w.heap.size) (hM : MapAt H w M (entsT T)) (hT : IsT w (NH H w) T) (ok : OkR T) (hc : (entsT T).length ≤ 900000) :
    Calls Try.prog 13 #[treeV T, .pointer (some ⟨M, 0, none⟩), aggA a] w (DoPost H M T a w) := by
  have hm := hM.hm
  have lM : M < w.heap.size := hH M hm
  have hmg : ∀ W, Ext w W → Calls Try.prog 30 #[.pointer (some ⟨M, 0, none⟩), .string a.k] W (Get7Post (getE (entsT T) a.k) W) := fun W hW => get7 (hM.ext hW) ok.sorted a.k
  have htp : ∀ W, Ext w W → Calls Try.prog 29 #[treeV T, .string a.k] W (GetPost (getE (entsT T) a.k) W) := fun W hW =>
    treeGet_any (F := NH H w) (fun b hb => Nat.lt_of_lt_of_le hb.1 hW.size) (hT.agree (hW.agree fun b hb => hb.1)) ok (by omega) a.k
  have hfin : ∀ W', Ext w W' → DoPost H M T a w (.returned (.tuple #[treeV T, .int .i64 1])) W' := fun W' hW =>
    ⟨T, rfl, .inr (.inr ⟨hk1, hk2, rfl⟩), (hT.agree (hW.agree fun b hb => hb.1)).mono fun i hi => ⟨Nat.lt_of_lt_of_le hi.1 hW.size, hi.2⟩, hM.ext hW, hW.st _⟩
  have g1 : (a.kd == 1) = false := beq_eq_false_iff_ne.2 hk1
  have g2 : (a.kd == 2) = false := beq_eq_false_iff_ne.2 hk2
  obtain ⟨p, hp⟩ := rootV_ptr T
  rw [treeV, hp] at htp hfin ⊢
  have HMG := Lib.hid hmg
  have HTP := Lib.hid htp
  have HFIN := Lib.hid hfin
  clear hmg htp hH hM hT ok hk1 hk2 hp hfin hm lM
  obtain ⟨o, ho⟩ : ∃ o, getE (entsT T) a.k = o := ⟨_, rfl⟩
  rw [ho] at HMG HTP
  obtain ⟨v, hv⟩ : ∃ v, o.getD zeroV = v := ⟨_, rfl⟩
  obtain ⟨bb, hbb⟩ : ∃ bb, o.isSome = bb := ⟨_, rfl⟩
  have hmg : ∀ W, Ext w W → Calls Try.prog 30 #[.pointer (some ⟨M, 0, none⟩), .string a.k] W fun e w' => ∃ sl so, e = .returned (.tuple #[aggV v sl so, .bool bb]) ∧ Ext W w' ∧ RV w' (Lt w'.heap.size) v sl so := fun W hW =>
    (HMG.out W hW).mono fun e w' ⟨sl, so, h1, h2, h3⟩ => ⟨sl, so, by rw [h1, hv, hbb], h2, by rw [← hv]; exact h3.mono fun i hi => Nat.lt_of_lt_of_le hi h2.size⟩
  have htp : ∀ W, Ext w W → Calls Try.prog 29 #[.agg #[.pointer p], .string a.k] W fun e w' => ∃ sl so, e = .returned (.tuple #[aggV v sl so, .bool bb]) ∧ Ext W w' ∧ RV w' (Lt w'.heap.size) v sl so := fun W hW =>
    (HTP.out W hW).mono fun e w' ⟨sl, so, h1, h2, h3⟩ => ⟨sl, so, by rw [h1, hv, hbb], h2, by rw [← hv]; exact h3.mono fun i hi => hi.2⟩
  have hse : ∀ (W : World) (g g' : Nat) (sl so sl' so' : Sl), Blk W g 63 #[.string ByteArray.empty, .int .i64 v.kind, .bool v.b, .int .i64 v.i, .string v.t, .slice sl.a v.l.length sl.c, .slice so.a v.ok.length so.c] → Blk W g' 63 #[.string ByteArray.empty, .int .i64 v.kind, .bool v.b, .int .i64 v.i, .string v.t, .slice sl'.a v.l.length sl'.c, .slice so'.a v.ok.length so'.c] →
      RV W (Lt W.heap.size) v sl so → RV W (Lt W.heap.size) v sl' so' → Calls Try.prog 22 #[.slice (some ⟨g, 0, none⟩) 1 1, .slice (some ⟨g', 0, none⟩) 1 1] W fun e w' => e = .returned (.bool true) ∧ Ext W w' := fun W g g' sl so sl' so' h1 h2 h3 h4 => by
    have := sameEnt_any (es_one (x := ⟨ByteArray.empty, v, sl, so⟩) h1 h3 (show ByteArray.empty.size ≤ maxLen by decide)) (es_one (x := ⟨ByteArray.empty, v, sl', so'⟩) h2 h4 (show ByteArray.empty.size ≤ maxLen by decide))
    rw [show sameE ([(⟨ByteArray.empty, v, sl, so⟩ : LE)].map LE.ent) ([(⟨ByteArray.empty, v, sl', so'⟩ : LE)].map LE.ent) = true from sameE_refl [(ByteArray.empty, v)]] at this
    exact this
  have HMQ := Lib.hid hmg
  have HTQ := Lib.hid htp
  have HSE := Lib.hid hse
  clear hmg htp HMG HTP ho hv hbb hse
  obtain ⟨kd, k, va, sla, soa⟩ := a
  dsimp only at g1 g2 HMQ HTQ HFIN
  cases bb
  all_goals
    go_enter Try.func13, Try.ntmps13
    go_wp2_with fail
    generalize hW0 : World.alloc (World.alloc (World.alloc _ _) _) _ = W0
    obtain ⟨hx0, hz0, hb0, hb1, hb2⟩ := three_act w p ⟨kd, k, va, sla, soa⟩ W0 hW0
    clear hW0
    refine (HTQ.out W0 hx0).mono ?_
    rintro e w1 ⟨sl, so, rfl, hx1, hr1⟩
    replace hb0 := hb0.ext hx1
    replace hb1 := hb1.ext hx1
    replace hb2 := hb2.ext hx1
    have hx2 : Ext w1 (w1.alloc (.cells #[.int .i64 v.kind, .bool v.b, .int .i64 v.i, .string v.t, .slice sl.a v.l.length sl.c, .slice so.a v.ok.length so.c] 51)) := (Ext.refl w1).alloc _ _
    have hb10 := Blk.new w1 51 #[.int .i64 v.kind, .bool v.b, .int .i64 v.i, .string v.t, .slice sl.a v.l.length sl.c, .slice so.a v.ok.length so.c]
    have q1 : (w1.alloc (.cells #[.int .i64 v.kind, .bool v.b, .int .i64 v.i, .string v.t, .slice sl.a v.l.length sl.c, .slice so.a v.ok.length so.c] 51)).cell? ⟨w.heap.size + 1, 1, none⟩ = some (.string k) := (hb1.ext hx2).cell 1
    go_wp2_with fail
    generalize hW2 : World.alloc w1 _ = W2 at *
    clear hW2
    refine (HMQ.out W2 ((hx0.trans hx1).trans hx2)).mono ?_
    rintro e w3 ⟨sl', so', rfl, hx3, hr3⟩
    have hx4 : Ext w3 (w3.alloc (.cells #[.int .i64 v.kind, .bool v.b, .int .i64 v.i, .string v.t, .slice sl'.a v.l.length sl'.c, .slice so'.a v.ok.length so'.c] 51)) := (Ext.refl w3).alloc _ _
    obtain ⟨d0, d1, d2, d3, d4, d5⟩ := ((hb10.ext hx3).ext hx4).c6
    have l10 : w1.heap.size < w3.heap.size := (hb10.ext hx3).lt
    have HR1 := Lib.hid (((hr1.ext hx2 fun _ h => h).ext hx3 fun b h => Nat.lt_of_lt_of_le h hx2.size))
    have HR3 := Lib.hid hr3
    have l13 : w1.heap.size ≤ w3.heap.size := Nat.le_of_lt l10
    have HX3 := Lib.hid (((hx0.trans hx1).trans hx2).trans hx3)
    replace hb0 := (hb0.ext hx2).ext hx3
    replace hb2 := (hb2.ext hx2).ext hx3
    have HB0 := Lib.hid hb0
    have HB2 := Lib.hid hb2
    have hs13 : w1.heap.size ≤ w3.heap.size := by omega
    clear hx0 hx1 hx2 hx3 hr1 hr3 hb0 hb1 hb2 hb10 hx4 q1
    go_wp2_with fail
    generalize hW6 : World.alloc (World.alloc (World.alloc w3 _) _) _ = W6
    obtain ⟨hx6, hz6, hb12, hb5, hb6⟩ := three_blocks w3 _ _ _ _ _ _ W6 hW6
    refine (HSE.out W6 _ _ sl so sl' so' hb5 hb6 (((HR1.out.mono fun i hi => Nat.lt_of_lt_of_le hi l13).ext hx6 fun _ h => h).mono fun i hi => Nat.lt_of_lt_of_le hi hx6.size) ((HR3.out.ext hx6 fun _ h => h).mono fun i hi => Nat.lt_of_lt_of_le hi hx6.size)).mono ?_
    rintro e w7 ⟨rfl, hx7⟩
    have hb0 := (HB0.out.ext hx6).ext hx7
    have hb2 := (HB2.out.ext hx6).ext hx7
    have c0 : w7.cell? ⟨w.heap.size, 0, none⟩ = some (.pointer p) := hb0.cell 0
    have c2 : w7.cell? ⟨w.heap.size + 1 + 1, 0, none⟩ = some (.pointer none) := hb2.cell 0
    have f2 := hb2.frozen 0
    have l2 := hb2.lt
    have HX7 := Lib.hid ((HX3.out.trans hx6).trans hx7)
    clear hx6 hx7 hb0 hb2 hb12 hb5 hb6 hz6 hW6
    go_wp2_with fail
    have qq : (w7.setCell ⟨w.heap.size + 1 + 1, 0, none⟩ (.pointer p)).cell? ⟨w.heap.size + 1 + 1, 0, none⟩ = some (.pointer p) := World.cell?_setCell_same w7 _ _ c2
    refine bodyPost_ret (v := .tuple #[.agg #[.pointer p], .int .i64 1]) (by simp [results, Try.results13, go_sem, qq]) rfl ?_
    exact HFIN.out _ (HX7.out.setCell (p := ⟨w.heap.size + 1 + 1, 0, none⟩) (by show w.heap.size ≤ w.heap.size + 1 + 1; omega) _)
theorem do_any (hH : ∀ b, H b → b < w.heap.size) (hM : MapAt H w M (entsT T)) (hT : IsT w (NH H w) T) (ok : OkR T) (hc : (entsT T).length ≤ 900000) (hk : a.k.size ≤ maxLen) (hv : RV w (NH H w) a.v a.sl a.so) :
    Calls Try.prog 13 #[treeV T, .pointer (some ⟨M, 0, none⟩), aggA a] w (DoPost H M T a w) := by
  by_cases h1 : a.kd = 1
  · exact do_put h1 hH hM hT ok hc hk hv
  · by_cases h2 : a.kd = 2
    · exact do_del h2 hH hM hT ok hc
    · exact do_get h1 h2 hH hM hT ok hc
end
end Go.Proofs.Ytohajcflklejjaa
namespace Go.Proofs.Ytohajcflklejjaa
open Go.RowKit
set_option linter.unusedVariables false
set_option linter.unusedSimpArgs false
theorem nodes_le : ∀ {h : Nat} {t : PT h}, OkT h t → 1 ≤ size h t → nodesS (shOf h t) + 1 ≤ 2 * (ents h t).length
  | 0, t, _, hs => by
    have hs : 1 ≤ t.2.length := hs
    simp only [shOf, nodesS, nodesL, ents]
    omega
  | h + 1, t, ok, hs => by
    have : ∀ (l : List (PT h)), (∀ x ∈ l, OkT h x ∧ 4 ≤ size h x) → nodesL (l.map (shOf h)) + l.length ≤ 2 * (l.flatMap (ents h)).length := by
      intro l
      induction l with
      | nil => intro _; simp [nodesL]
      | cons a l ih =>
        intro hl
        have ha := hl a (List.mem_cons_self ..)
        have h1 := nodes_le ha.1 (by omega)
        have h2 := ih fun x hx => hl x (List.mem_cons_of_mem _ hx)
        simp only [List.map_cons, nodesL, List.flatMap_cons, List.length_append, List.length_cons]
        omega
    have h1 := this t.2 ok.2.2
    have h2 := ok.1
    simp only [shOf, nodesS, ents]
    omega
set_option maxRecDepth 100000 in
set_option maxHeartbeats 4000000 in
theorem snd07 {H : Nat → Prop} {w : World} {M : Nat} {T : RT} {F : Nat → Prop} (hF : ∀ b, F b → b < w.heap.size) (hM : MapAt H w M (entsT T)) (hT : IsT w F T) (ok : OkR T) (hc : (entsT T).length ≤ 40000) :
    Calls Try.prog 14 #[treeV T, .pointer (some ⟨M, 0, none⟩)] w fun e w' => e = .returned (.bool true) ∧ Ext w w' := by
  obtain ⟨hm, s, xs, hb, hs, hxs⟩ := hM
  have c0 : w.cell? ⟨M, 0, none⟩ = some (.slice s.a xs.length s.c) := hb.cell 0
  have lM := hb.lt
  have hlen : xs.length = (entsT T).length := by rw [← hxs, List.length_map]
  rcases T with _ | ⟨h, t⟩
  · have hl0 : xs.length = 0 := hlen
    rw [hl0] at c0
    have hln : ∀ W, Calls Try.prog 17 #[.agg #[.pointer none]] W fun e w' => e = .returned (.int .i64 0) ∧ Ext W w' := fun W => treeLen_any (T := none) (F := fun _ => False) (fun _ h => h.elim) trivial
    have hen : ∀ W, Calls Try.prog 31 #[.agg #[.pointer none]] W fun e w' => (∃ s : Sl, e = .returned (.slice s.a 0 s.c)) ∧ Ext W w' := fun W =>
      (treeEntries_any (T := none) (F := fun _ => False) (w := W) (fun _ h => h.elim) trivial trivial (Nat.zero_le _)).mono fun e w' ⟨s', xs', h1, h2, _, h4⟩ => ⟨⟨s', by rw [h1, List.length_eq_zero_iff.2 (List.map_eq_nil_iff.1 h2)]⟩, h4⟩
    have HLN := Lib.hid hln
    have HEN := Lib.hid hen
    clear hF hm hb hs hxs hlen hl0 hln hen hT ok hc
    show Calls _ _ #[.agg #[.pointer none], _] _ _
    go_enter Try.func14, Try.ntmps14
    go_wp2_with fail
    have hx0 : Ext w (w.alloc (.cells #[.pointer none] 32)) := (Ext.refl w).alloc _ _
    have hb0 := Blk.new w 32 #[.pointer none]
    generalize w.alloc (.cells #[.pointer none] 32) = W0 at *
    refine (treeRoot_any W0 (.pointer none)).mono ?_
    rintro e w1 ⟨rfl, hx1⟩
    replace hb0 := hb0.ext hx1
    have q0 : w1.cell? ⟨w.heap.size, 0, none⟩ = some (.pointer none) := hb0.cell 0
    have c1 := ((hx0.trans hx1).cell (o := 0) lM).trans c0
    have HX1 := Lib.hid (hx0.trans hx1)
    clear hx0 hx1 c0
    go_wp2_with fail
    refine (HLN.out w1).mono ?_
    rintro e w2 ⟨rfl, hx2⟩
    replace hb0 := hb0.ext hx2
    have q1 : w2.cell? ⟨w.heap.size, 0, none⟩ = some (.pointer none) := hb0.cell 0
    have HX2 := Lib.hid (HX1.out.trans hx2)
    clear hx2 q0 c1
    go_wp2_with fail
    refine (HEN.out w2).mono ?_
    rintro e w3 ⟨⟨s3, rfl⟩, hx3⟩
    have HX3 := Lib.hid (HX2.out.trans hx3)
    clear hx3
    go_wp2_with fail
    go_ret
    exact ⟨rfl, HX3.out⟩
  · replace hT : IsN w F h t := hT
    replace hc : (ents h t).length ≤ 40000 := hc
    replace hxs : xs.map LE.ent = ents h t := hxs
    replace hlen : xs.length = (ents h t).length := hlen
    have hpos := ents_pos h t ok.1 ok.2.1
    have hne : ((xs.length : Int) == 0) = false := beq_eq_false_iff_ne.2 (by omega)
    obtain ⟨d, hd⟩ : ∃ d, shOf h t = d := ⟨_, rfl⟩
    have hmay : mayS d = true := by rw [← hd]; exact shOf_may ok.1 ok.2.2
    have hsound : soundS true d = true := by rw [← hd]; exact shOf_sound true ok.1 (.inl rfl)
    have hflat : flatS d = ents h t := by rw [← hd]; exact shOf_flat ok.1
    have hnod : nodesS d ≤ 100000 := by have := nodes_le ok.1 ok.2.1; rw [hd] at this; omega
    have hesw : ∀ W, Ext w W → ES W (Lt W.heap.size) s xs := fun W hW => ((hs.mono (G := Lt w.heap.size) fun i hi => hi.1).agree (hW.agree fun _ h => h)).mono fun i hi => Nat.lt_of_lt_of_le hi hW.size
    have hsh : ∀ W, Ext w W → Calls Try.prog 12 #[ptr h t] W (ShapePost d W) := fun W hW => by rw [← hd]; exact shape_any h t W ((hT.agree (hW.agree hF)).mono fun i hi => Nat.lt_of_lt_of_le (hF i hi) hW.size) ok.1
    have hhe : ∀ W, Ext w W → Calls Try.prog 32 #[ptr h t] W fun e w' => e = .returned (.int .i64 h) ∧ W = w' := fun W hW => height_any (hT.agree (hW.agree hF))
    have hln : ∀ W, Ext w W → Calls Try.prog 17 #[.agg #[ptr h t]] W fun e w' => e = .returned (.int .i64 xs.length) ∧ Ext W w' := fun W hW => by
      rw [hlen]; exact treeLen_any (T := some ⟨h, t⟩) (fun b hb => Nat.lt_of_lt_of_le (hF b hb) hW.size) (hT.agree (hW.agree hF))
    have hen : ∀ W, Ext w W → Calls Try.prog 31 #[.agg #[ptr h t]] W (EntriesPost (ents h t) W) := fun W hW =>
      treeEntries_any (T := some ⟨h, t⟩) (fun b hb => Nat.lt_of_lt_of_le (hF b hb) hW.size) (hT.agree (hW.agree hF)) ok (by show (ents h t).length ≤ _; omega)
    have hleast : h = 0 ∨ 2 * 4 ^ h ≤ xs.length := by
      cases h with
      | zero => exact .inl rfl
      | succ h => exact .inr (by rw [hlen]; exact ents_least2 ok.1)
    have hpow : ∀ i, i ≤ h → 2 * 4 ^ i ≤ 40002 := fun i hi => by
      have h1 : 4 ^ i ≤ 4 ^ h := Nat.pow_le_pow_right (by omega) hi
      rcases hleast with rfl | hl
      · simp at hi; subst hi; omega
      · omega
    have HMAY := Lib.hid hmay
    have HSND := Lib.hid hsound
    have HFLT := Lib.hid hflat
    have HESW := Lib.hid hesw
    have HSH := Lib.hid hsh
    have HHE := Lib.hid hhe
    have HLN := Lib.hid hln
    have HEN := Lib.hid hen
    have HXS := Lib.hid hxs
    have HPOW := Lib.hid hpow
    have hxl : xs.length ≤ 40000 := by omega
    have hfl4 : (flatS d).length ≤ 1000000 := by rw [hflat]; omega
    clear hF hm hs hxs hlen hd hmay hsound hflat hesw hsh hhe hln hen hT ok hpos hc hpow
    show Calls _ _ #[.agg #[ptr h t], _] _ _
    go_enter Try.func14, Try.ntmps14
    go_wp2_with fail
    have hx0 : Ext w (w.alloc (.cells #[ptr h t] 32)) := (Ext.refl w).alloc _ _
    have hb0 := Blk.new w 32 #[ptr h t]
    generalize w.alloc (.cells #[ptr h t] 32) = W0 at *
    refine (treeRoot_any W0 (ptr h t)).mono ?_
    rintro e w1 ⟨rfl, hx1⟩
    replace hb0 := hb0.ext hx1
    have c1 := ((hx0.trans hx1).cell (o := 0) lM).trans c0
    have HX1 := Lib.hid (hx0.trans hx1)
    clear hx0 hx1 c0
    go_wp2_with fail
    refine (HSH.out w1 HX1.out).mono ?_
    rintro e w2 ⟨se, sk, rfl, hx2, hrs2⟩
    replace hb0 := hb0.ext hx2
    have hx3 : Ext w2 (w2.alloc (.cells #[.slice se.a d.es.length se.c, .slice sk.a d.ks.length sk.c] 25)) := (Ext.refl w2).alloc _ _
    have hb6 := Blk.new w2 25 #[.slice se.a d.es.length se.c, .slice sk.a d.ks.length sk.c]
    have c2 := ((hx2.trans hx3).cell (o := 0) (Nat.lt_of_lt_of_le lM HX1.out.size)).trans c1
    have HX3 := Lib.hid ((HX1.out.trans hx2).trans hx3)
    replace hb0 := hb0.ext hx3
    have hrs3 := (hrs2.mono (G := Lt w2.heap.size) fun i hi => hi.2).ext hx3
    clear hx2 c1 hrs2 hx3
    go_wp2_with fail
    generalize w2.alloc (.cells #[.slice se.a d.es.length se.c, .slice sk.a d.ks.length sk.c] 25) = W3 at *
    have HB0 := Lib.hid hb0
    have HB6 := Lib.hid hb6
    have HRS := Lib.hid hrs3
    clear hb0 hb6 hrs3
    go_loopw [7, 8] (fun l i wr => ∃ (j L : Nat), j ≤ h ∧ i = .int .i64 j ∧ l = .int .i64 L ∧ L = 2 * 4 ^ j ∧ wr = W3) (fun _ i _ => h - (intOf i).toNat)
    case atStart => exact ⟨0, 2, Nat.zero_le _, rfl, rfl, rfl, rfl⟩
    case round =>
      obtain ⟨j, L, hj, rfl, rfl, hL, rfl⟩ := hrel
      have HL := Lib.hid hL
      by_cases hlt : j < h
      · have g1 : (j : Int) < (h : Int) := by omega
        have hp1 := HPOW.out (j + 1) hlt
        rw [Nat.pow_succ] at hp1
        have hL4 : (L : Int) * 4 ≤ 50000 := by omega
        have hL0 : 0 ≤ (L : Int) := by omega
        have hh1 : (h : Int) ≤ 50000 := by
          have h1 := HPOW.out h (Nat.le_refl _)
          have h2 := @Nat.lt_pow_self h 4 (by decide)
          omega
        clear hL hp1
        go_wp2_with fail
        refine (HHE.out _ HX3.out).mono ?_
        rintro e w5 ⟨rfl, rfl⟩
        go_wp2_with fail
        go_roundw
        case rel => exact ⟨j + 1, L * 4, hlt, by go_num, by go_num, by rw [HL.out, Nat.pow_succ]; omega, by trivial⟩
        case measure => simp [intOf]; omega
      · have g1 : ¬ (j : Int) < (h : Int) := by omega
        obtain rfl : j = h := by omega
        have hmc : ∀ W, Ext wr W → Calls Try.prog 7 #[aggS d se sk] W fun e w' => e = .returned (.bool true) ∧ Ext W w' := fun W hW => by
          have := may06 _ d (Nat.le_refl _) hnod W se sk (HRS.out.ext hW)
          rwa [HMAY.out] at this
        have hsc : ∀ W, Ext wr W → Calls Try.prog 8 #[aggS d se sk, .bool true] W fun e w' => e = .returned (.bool true) ∧ Ext W w' := fun W hW => by
          have := sound06 _ d (Nat.le_refl _) true W se sk (HRS.out.ext hW)
          rwa [HSND.out] at this
        have hfc : ∀ W, Ext wr W → Calls Try.prog 9 #[aggS d se sk] W fun e w' => ∃ (s3 : Sl) (ys : List LE), e = .returned (.slice s3.a ys.length s3.c) ∧ sameE (ys.map LE.ent) (xs.map LE.ent) = true ∧ ES w' (Lt w'.heap.size) s3 ys ∧ Ext W w' := fun W hW =>
          (flat06 _ d (Nat.le_refl _) hfl4 W (Lt W.heap.size) se sk (fun _ h => h) (HRS.out.ext hW)).mono fun e w' ⟨s3, ys, h1, h2, h3, h4, h5, h6⟩ =>
            ⟨s3, ys, h1, by rw [h2, HXS.out, HFLT.out]; exact sameE_refl _, ⟨h3, fun x hx => ⟨(h4 x hx).1.mono fun i hi => Nat.lt_of_lt_of_le hi h6.size, (h4 x hx).2⟩, h5⟩, h6⟩
        have hec : ∀ W, Ext wr W → Calls Try.prog 31 #[.agg #[ptr j t]] W fun e w' => ∃ (s3 : Sl) (ys : List LE), e = .returned (.slice s3.a ys.length s3.c) ∧ sameE (ys.map LE.ent) (xs.map LE.ent) = true ∧ ES w' (Lt w'.heap.size) s3 ys ∧ Ext W w' := fun W hW =>
          (HEN.out W (HX3.out.trans hW)).mono fun e w' ⟨s3, ys, h1, h2, h3, h4⟩ => ⟨s3, ys, h1, by rw [h2, HXS.out]; exact sameE_refl _, h3.es.mono fun i hi => hi.2, h4⟩
        have hss : ∀ (W : World) (s3 : Sl) (ys : List LE), Ext wr W → ES W (Lt W.heap.size) s3 ys → sameE (ys.map LE.ent) (xs.map LE.ent) = true → Calls Try.prog 22 #[.slice s3.a ys.length s3.c, .slice s.a xs.length s.c] W fun e w' => e = .returned (.bool true) ∧ Ext W w' := fun W s3 ys hW h1 h2 => by
          have := sameEnt_any h1 (HESW.out W (HX3.out.trans hW))
          rwa [h2] at this
        have hlc : ∀ W, Ext wr W → Calls Try.prog 17 #[.agg #[ptr j t]] W fun e w' => e = .returned (.int .i64 xs.length) ∧ Ext W w' := fun W hW => HLN.out W (HX3.out.trans hW)
        have hhc : ∀ W, Ext wr W → Calls Try.prog 32 #[ptr j t] W fun e w' => e = .returned (.int .i64 j) ∧ W = w' := fun W hW => HHE.out W (HX3.out.trans hW)
        obtain ⟨r0⟩ : Nonempty (wr.cell? ⟨w.heap.size, 0, none⟩ = some (ptr j t)) := ⟨HB0.out.cell 0⟩
        have l0 := HB0.out.lt
        have z0 : wr.cell? ⟨w2.heap.size, 0, none⟩ = some (.slice se.a d.es.length se.c) := HB6.out.cell 0
        have z1 : wr.cell? ⟨w2.heap.size, 1, none⟩ = some (.slice sk.a d.ks.length sk.c) := HB6.out.cell 1
        have l6 := HB6.out.lt
        have lM3 : M < wr.heap.size := Nat.lt_of_lt_of_le lM HX3.out.size
        have HSS := Lib.hid (show ∀ W, Ext wr W → W.cell? ⟨w.heap.size, 0, none⟩ = some (ptr j t) ∧ W.cell? ⟨w2.heap.size, 0, none⟩ = some (.slice se.a d.es.length se.c) ∧ W.cell? ⟨w2.heap.size, 1, none⟩ = some (.slice sk.a d.ks.length sk.c) ∧ W.cell? ⟨M, 0, none⟩ = some (.slice s.a xs.length s.c) from
          fun W hW => ⟨(hW.cell l0).trans r0, (hW.cell l6).trans z0, (hW.cell l6).trans z1, (hW.cell lM3).trans c2⟩)
        have hL0 : 0 ≤ (L : Int) := by omega
        have hcase : j = 0 ∨ (¬ j = 0 ∧ ((j : Int) == 0) = false ∧ (L : Int) ≤ (xs.length : Int)) := by
          by_cases hj0 : j = 0
          · exact .inl hj0
          · refine .inr ⟨hj0, beq_eq_false_iff_ne.2 (by omega), ?_⟩
            rcases hleast with h1 | h1
            · exact absurd h1 hj0
            · omega
        have HMC := Lib.hid hmc
        have HSC := Lib.hid hsc
        have HFC := Lib.hid hfc
        have HEC := Lib.hid hec
        have HSE := Lib.hid hss
        have HLC := Lib.hid hlc
        have HHC := Lib.hid hhc
        clear hmc hsc hfc hec hss hlc hhc r0 z0 z1 hL hleast
        rcases hcase with rfl | ⟨hj0, hjb, hLx⟩
        · go_wp2_with fail
          refine (HHC.out _ (Ext.refl wr)).mono ?_
          rintro e w5 ⟨rfl, rfl⟩
          go_wp2_with fail
          clear c2
          refine wp_region_held_drew (S := (fun w' => Ext wr w')) (by kernel_rfl) (((Ext.refl wr).drew)) (fun hHeld => ?_)
          refine held_on (i := 0) (d := (some 40)) (v := ?_) rfl rfl (by kernel_rfl) (by kernel_rfl) (by kernel_rfl) (fun _ _ _ h => h) (by rfl) hHeld ?_ ?_
          rotate_left
          focus (intro w hSw; have hSc := HSS.out w hSw; clear hSw; go_simp; first | done | with_reducible rfl)
          try simp only [Act.put, List.setIfInBounds_toArray, List.set_cons_zero, List.set_cons_succ]
          refine held_call (i := 1) (by kernel_rfl) rfl (by rfl) (fun K hK => ?_)
          go_simp
          (refine (HMC.out _ hHeld).mono ?_; rintro e w6 ⟨rfl, hx6⟩)
          refine hK.out _ _ (hHeld.trans hx6) (fun hHeld => ?_)
          clear hK K
          try simp only [Act.put, List.setIfInBounds_toArray, List.set_cons_zero, List.set_cons_succ]
          refine held_on (i := 2) (d := (some 42)) (v := ?_) rfl rfl (by kernel_rfl) (by kernel_rfl) (by kernel_rfl) (fun _ _ _ h => h) (by rfl) hHeld ?_ ?_
          rotate_left
          focus (intro w hSw; have hSc := HSS.out w hSw; clear hSw; go_simp; first | done | with_reducible rfl)
          try simp only [Act.put, List.setIfInBounds_toArray, List.set_cons_zero, List.set_cons_succ]
          refine held_on (i := 3) (d := (some 43)) (v := ?_) rfl rfl (by kernel_rfl) (by kernel_rfl) (by kernel_rfl) (fun _ _ _ h => h) (by rfl) hHeld ?_ ?_
          rotate_left
          focus (intro w hSw; have hSc := HSS.out w hSw; clear hSw; go_simp; first | done | with_reducible rfl)
          try simp only [Act.put, List.setIfInBounds_toArray, List.set_cons_zero, List.set_cons_succ]
          refine held_call (i := 4) (by kernel_rfl) rfl (by rfl) (fun K hK => ?_)
          go_simp
          (refine (HSC.out _ hHeld).mono ?_; rintro e w7 ⟨rfl, hx7⟩)
          refine hK.out _ _ (hHeld.trans hx7) (fun hHeld => ?_)
          clear hK K
          try simp only [Act.put, List.setIfInBounds_toArray, List.set_cons_zero, List.set_cons_succ]
          refine held_on (i := 5) (d := (some 45)) (v := ?_) rfl rfl (by kernel_rfl) (by kernel_rfl) (by kernel_rfl) (fun _ _ _ h => h) (by rfl) hHeld ?_ ?_
          rotate_left
          focus (intro w hSw; have hSc := HSS.out w hSw; clear hSw; go_simp; first | done | with_reducible rfl)
          try simp only [Act.put, List.setIfInBounds_toArray, List.set_cons_zero, List.set_cons_succ]
          refine held_on (i := 6) (d := (some 46)) (v := ?_) rfl rfl (by kernel_rfl) (by kernel_rfl) (by kernel_rfl) (fun _ _ _ h => h) (by rfl) hHeld ?_ ?_
          rotate_left
          focus (intro w hSw; have hSc := HSS.out w hSw; clear hSw; go_simp; first | done | with_reducible rfl)
          try simp only [Act.put, List.setIfInBounds_toArray, List.set_cons_zero, List.set_cons_succ]
          refine held_on (i := 7) (d := (some 47)) (v := ?_) rfl rfl (by kernel_rfl) (by kernel_rfl) (by kernel_rfl) (fun _ _ _ h => h) (by rfl) hHeld ?_ ?_
          rotate_left
          focus (intro w hSw; have hSc := HSS.out w hSw; clear hSw; go_simp; first | done | with_reducible rfl)
          try simp only [Act.put, List.setIfInBounds_toArray, List.set_cons_zero, List.set_cons_succ]
          refine held_on (i := 9) (d := (some 49)) (v := ?_) rfl rfl (by kernel_rfl) (by kernel_rfl) (by kernel_rfl) (fun _ _ _ h => h) (by rfl) hHeld ?_ ?_
          rotate_left
          focus (intro w hSw; have hSc := HSS.out w hSw; clear hSw; go_simp; first | done | with_reducible rfl)
          try simp only [Act.put, List.setIfInBounds_toArray, List.set_cons_zero, List.set_cons_succ]
          refine held_on (i := 10) (d := (some 50)) (v := ?_) rfl rfl (by kernel_rfl) (by kernel_rfl) (by kernel_rfl) (fun _ _ _ h => h) (by rfl) hHeld ?_ ?_
          rotate_left
          focus (intro w hSw; have hSc := HSS.out w hSw; clear hSw; go_simp; first | done | with_reducible rfl)
          try simp only [Act.put, List.setIfInBounds_toArray, List.set_cons_zero, List.set_cons_succ]
          refine held_on (i := 11) (d := (some 51)) (v := ?_) rfl rfl (by kernel_rfl) (by kernel_rfl) (by kernel_rfl) (fun _ _ _ h => h) (by rfl) hHeld ?_ ?_
          rotate_left
          focus (intro w hSw; have hSc := HSS.out w hSw; clear hSw; go_simp; first | done | with_reducible rfl)
          try simp only [Act.put, List.setIfInBounds_toArray, List.set_cons_zero, List.set_cons_succ]
          refine held_on (i := 12) (d := (some 52)) (v := ?_) rfl rfl (by kernel_rfl) (by kernel_rfl) (by kernel_rfl) (fun _ _ _ h => h) (by rfl) hHeld ?_ ?_
          rotate_left
          focus (intro w hSw; have hSc := HSS.out w hSw; clear hSw; go_simp; first | done | with_reducible rfl)
          try simp only [Act.put, List.setIfInBounds_toArray, List.set_cons_zero, List.set_cons_succ]
          refine held_call (i := 8) (by kernel_rfl) rfl (by rfl) (fun K hK => ?_)
          go_simp
          (refine (HFC.out _ hHeld).mono ?_; rintro e w8 ⟨s8, ys8, rfl, he8, hes8, hx8⟩; have HE8 := Lib.hid he8; clear he8)
          refine hK.out _ _ (hHeld.trans hx8) (fun hHeld => ?_)
          clear hK K
          try simp only [Act.put, List.setIfInBounds_toArray, List.set_cons_zero, List.set_cons_succ]
          refine held_call (i := 13) (by kernel_rfl) rfl (by rfl) (fun K hK => ?_)
          go_simp
          (refine (HSE.out _ s8 ys8 hHeld hes8 HE8.out).mono ?_; rintro e w9 ⟨rfl, hx9⟩)
          refine hK.out _ _ (hHeld.trans hx9) (fun hHeld => ?_)
          clear hK K
          try simp only [Act.put, List.setIfInBounds_toArray, List.set_cons_zero, List.set_cons_succ]
          refine held_on (i := 14) (d := (some 54)) (v := ?_) rfl rfl (by kernel_rfl) (by kernel_rfl) (by kernel_rfl) (fun _ _ _ h => h) (by rfl) hHeld ?_ ?_
          rotate_left
          focus (intro w hSw; have hSc := HSS.out w hSw; clear hSw; go_simp; first | done | with_reducible rfl)
          try simp only [Act.put, List.setIfInBounds_toArray, List.set_cons_zero, List.set_cons_succ]
          refine held_on (i := 15) (d := (some 55)) (v := ?_) rfl rfl (by kernel_rfl) (by kernel_rfl) (by kernel_rfl) (fun _ _ _ h => h) (by rfl) hHeld ?_ ?_
          rotate_left
          focus (intro w hSw; have hSc := HSS.out w hSw; clear hSw; go_simp; first | done | with_reducible rfl)
          try simp only [Act.put, List.setIfInBounds_toArray, List.set_cons_zero, List.set_cons_succ]
          refine held_on (i := 16) (d := (some 56)) (v := ?_) rfl rfl (by kernel_rfl) (by kernel_rfl) (by kernel_rfl) (fun _ _ _ h => h) (by rfl) hHeld ?_ ?_
          rotate_left
          focus (intro w hSw; have hSc := HSS.out w hSw; clear hSw; go_simp; first | done | with_reducible rfl)
          try simp only [Act.put, List.setIfInBounds_toArray, List.set_cons_zero, List.set_cons_succ]
          refine held_on (i := 18) (d := (some 58)) (v := ?_) rfl rfl (by kernel_rfl) (by kernel_rfl) (by kernel_rfl) (fun _ _ _ h => h) (by rfl) hHeld ?_ ?_
          rotate_left
          focus (intro w hSw; have hSc := HSS.out w hSw; clear hSw; go_simp; first | done | with_reducible rfl)
          try simp only [Act.put, List.setIfInBounds_toArray, List.set_cons_zero, List.set_cons_succ]
          refine held_on (i := 19) (d := (some 59)) (v := ?_) rfl rfl (by kernel_rfl) (by kernel_rfl) (by kernel_rfl) (fun _ _ _ h => h) (by rfl) hHeld ?_ ?_
          rotate_left
          focus (intro w hSw; have hSc := HSS.out w hSw; clear hSw; go_simp; first | done | with_reducible rfl)
          try simp only [Act.put, List.setIfInBounds_toArray, List.set_cons_zero, List.set_cons_succ]
          refine held_on (i := 20) (d := (some 60)) (v := ?_) rfl rfl (by kernel_rfl) (by kernel_rfl) (by kernel_rfl) (fun _ _ _ h => h) (by rfl) hHeld ?_ ?_
          rotate_left
          focus (intro w hSw; have hSc := HSS.out w hSw; clear hSw; go_simp; first | done | with_reducible rfl)
          try simp only [Act.put, List.setIfInBounds_toArray, List.set_cons_zero, List.set_cons_succ]
          refine held_on (i := 21) (d := (some 61)) (v := ?_) rfl rfl (by kernel_rfl) (by kernel_rfl) (by kernel_rfl) (fun _ _ _ h => h) (by rfl) hHeld ?_ ?_
          rotate_left
          focus (intro w hSw; have hSc := HSS.out w hSw; clear hSw; go_simp; first | done | with_reducible rfl)
          try simp only [Act.put, List.setIfInBounds_toArray, List.set_cons_zero, List.set_cons_succ]
          refine held_call (i := 17) (by kernel_rfl) rfl (by rfl) (fun K hK => ?_)
          go_simp
          (refine (HEC.out _ hHeld).mono ?_; rintro e wa ⟨sa, ysa, rfl, hea, hesa, hxa⟩; have HEA := Lib.hid hea; clear hea)
          refine hK.out _ _ (hHeld.trans hxa) (fun hHeld => ?_)
          clear hK K
          try simp only [Act.put, List.setIfInBounds_toArray, List.set_cons_zero, List.set_cons_succ]
          refine held_call (i := 22) (by kernel_rfl) rfl (by rfl) (fun K hK => ?_)
          go_simp
          (refine (HSE.out _ sa ysa hHeld hesa HEA.out).mono ?_; rintro e wb ⟨rfl, hxb⟩)
          refine hK.out _ _ (hHeld.trans hxb) (fun hHeld => ?_)
          clear hK K
          try simp only [Act.put, List.setIfInBounds_toArray, List.set_cons_zero, List.set_cons_succ]
          refine held_on (i := 23) (d := (some 63)) (v := ?_) rfl rfl (by kernel_rfl) (by kernel_rfl) (by kernel_rfl) (fun _ _ _ h => h) (by rfl) hHeld ?_ ?_
          rotate_left
          focus (intro w hSw; have hSc := HSS.out w hSw; clear hSw; go_simp; first | done | with_reducible rfl)
          try simp only [Act.put, List.setIfInBounds_toArray, List.set_cons_zero, List.set_cons_succ]
          refine held_on (i := 24) (d := (some 64)) (v := ?_) rfl rfl (by kernel_rfl) (by kernel_rfl) (by kernel_rfl) (fun _ _ _ h => h) (by rfl) hHeld ?_ ?_
          rotate_left
          focus (intro w hSw; have hSc := HSS.out w hSw; clear hSw; go_simp; first | done | with_reducible rfl)
          try simp only [Act.put, List.setIfInBounds_toArray, List.set_cons_zero, List.set_cons_succ]
          refine held_on (i := 25) (d := (some 65)) (v := ?_) rfl rfl (by kernel_rfl) (by kernel_rfl) (by kernel_rfl) (fun _ _ _ h => h) (by rfl) hHeld ?_ ?_
          rotate_left
          focus (intro w hSw; have hSc := HSS.out w hSw; clear hSw; go_simp; first | done | with_reducible rfl)
          try simp only [Act.put, List.setIfInBounds_toArray, List.set_cons_zero, List.set_cons_succ]
          refine held_on (i := 27) (d := (some 67)) (v := ?_) rfl rfl (by kernel_rfl) (by kernel_rfl) (by kernel_rfl) (fun _ _ _ h => h) (by rfl) hHeld ?_ ?_
          rotate_left
          focus (intro w hSw; have hSc := HSS.out w hSw; clear hSw; go_simp; first | done | with_reducible rfl)
          try simp only [Act.put, List.setIfInBounds_toArray, List.set_cons_zero, List.set_cons_succ]
          refine held_on (i := 28) (d := (some 68)) (v := ?_) rfl rfl (by kernel_rfl) (by kernel_rfl) (by kernel_rfl) (fun _ _ _ h => h) (by rfl) hHeld ?_ ?_
          rotate_left
          focus (intro w hSw; have hSc := HSS.out w hSw; clear hSw; go_simp; first | done | with_reducible rfl)
          try simp only [Act.put, List.setIfInBounds_toArray, List.set_cons_zero, List.set_cons_succ]
          refine held_on (i := 29) (d := (some 69)) (v := ?_) rfl rfl (by kernel_rfl) (by kernel_rfl) (by kernel_rfl) (fun _ _ _ h => h) (by rfl) hHeld ?_ ?_
          rotate_left
          focus (intro w hSw; have hSc := HSS.out w hSw; clear hSw; go_simp; first | done | with_reducible rfl)
          try simp only [Act.put, List.setIfInBounds_toArray, List.set_cons_zero, List.set_cons_succ]
          refine held_on (i := 30) (d := (some 70)) (v := ?_) rfl rfl (by kernel_rfl) (by kernel_rfl) (by kernel_rfl) (fun _ _ _ h => h) (by rfl) hHeld ?_ ?_
          rotate_left
          focus (intro w hSw; have hSc := HSS.out w hSw; clear hSw; go_simp; first | done | with_reducible rfl)
          try simp only [Act.put, List.setIfInBounds_toArray, List.set_cons_zero, List.set_cons_succ]
          refine held_on (i := 31) (d := (some 71)) (v := ?_) rfl rfl (by kernel_rfl) (by kernel_rfl) (by kernel_rfl) (fun _ _ _ h => h) (by rfl) hHeld ?_ ?_
          rotate_left
          focus (intro w hSw; have hSc := HSS.out w hSw; clear hSw; go_simp; first | done | with_reducible rfl)
          try simp only [Act.put, List.setIfInBounds_toArray, List.set_cons_zero, List.set_cons_succ]
          refine held_call (i := 26) (by kernel_rfl) rfl (by rfl) (fun K hK => ?_)
          go_simp
          (refine (HLC.out _ hHeld).mono ?_; rintro e wc ⟨rfl, hxc⟩)
          refine hK.out _ _ (hHeld.trans hxc) (fun hHeld => ?_)
          clear hK K
          try simp only [Act.put, List.setIfInBounds_toArray, List.set_cons_zero, List.set_cons_succ]
          refine held_on (i := 32) (d := (some 72)) (v := ?_) rfl rfl (by kernel_rfl) (by kernel_rfl) (by kernel_rfl) (fun _ _ _ h => h) (by rfl) hHeld ?_ ?_
          rotate_left
          focus (intro w hSw; have hSc := HSS.out w hSw; clear hSw; go_simp; first | done | with_reducible rfl)
          try simp only [Act.put, List.setIfInBounds_toArray, List.set_cons_zero, List.set_cons_succ]
          refine held_on (i := 33) (d := (some 73)) (v := ?_) rfl rfl (by kernel_rfl) (by kernel_rfl) (by kernel_rfl) (fun _ _ _ h => h) (by rfl) hHeld ?_ ?_
          rotate_left
          focus (intro w hSw; have hSc := HSS.out w hSw; clear hSw; go_simp; first | done | with_reducible rfl)
          try simp only [Act.put, List.setIfInBounds_toArray, List.set_cons_zero, List.set_cons_succ]
          refine held_on (i := 34) (d := (some 74)) (v := ?_) rfl rfl (by kernel_rfl) (by kernel_rfl) (by kernel_rfl) (fun _ _ _ h => h) (by rfl) hHeld ?_ ?_
          rotate_left
          focus (intro w hSw; have hSc := HSS.out w hSw; clear hSw; go_simp; first | done | with_reducible rfl)
          try simp only [Act.put, List.setIfInBounds_toArray, List.set_cons_zero, List.set_cons_succ]
          refine held_on (i := 35) (d := (some 75)) (v := ?_) rfl rfl (by kernel_rfl) (by kernel_rfl) (by kernel_rfl) (fun _ _ _ h => h) (by rfl) hHeld ?_ ?_
          rotate_left
          focus (intro w hSw; have hSc := HSS.out w hSw; clear hSw; go_simp; first | done | with_reducible rfl)
          try simp only [Act.put, List.setIfInBounds_toArray, List.set_cons_zero, List.set_cons_succ]
          refine held_call (i := 36) (by kernel_rfl) rfl (by rfl) (fun K hK => ?_)
          go_simp
          (refine (HHC.out _ hHeld).mono ?_; rintro e wd ⟨rfl, rfl⟩)
          refine hK.out _ _ (hHeld) (fun hHeld => ?_)
          clear hK K
          try simp only [Act.put, List.setIfInBounds_toArray, List.set_cons_zero, List.set_cons_succ]
          refine held_on (i := 37) (d := (some 77)) (v := ?_) rfl rfl (by kernel_rfl) (by kernel_rfl) (by kernel_rfl) (fun _ _ _ h => h) (by rfl) hHeld ?_ ?_
          rotate_left
          focus (intro w hSw; have hSc := HSS.out w hSw; clear hSw; go_simp; first | done | with_reducible rfl)
          try simp only [Act.put, List.setIfInBounds_toArray, List.set_cons_zero, List.set_cons_succ]
          refine held_on (i := 38) (d := (some 78)) (v := ?_) rfl rfl (by kernel_rfl) (by kernel_rfl) (by kernel_rfl) (fun _ _ _ h => h) (by rfl) hHeld ?_ ?_
          rotate_left
          focus (intro w hSw; have hSc := HSS.out w hSw; clear hSw; go_simp; first | done | with_reducible rfl)
          try simp only [Act.put, List.setIfInBounds_toArray, List.set_cons_zero, List.set_cons_succ]
          refine held_off (i := 39) (d := (some 79)) rfl rfl (by kernel_rfl) (by kernel_rfl) (by kernel_rfl) (fun _ _ _ h => h) (by rfl) hHeld ?_
          try simp only [Act.put, List.setIfInBounds_toArray, List.set_cons_zero, List.set_cons_succ]
          refine held_off (i := 40) (d := (some 80)) rfl rfl (by kernel_rfl) (by kernel_rfl) (by kernel_rfl) (fun _ _ _ h => h) (by rfl) hHeld ?_
          try simp only [Act.put, List.setIfInBounds_toArray, List.set_cons_zero, List.set_cons_succ]
          refine held_off (i := 41) (d := (some 81)) rfl rfl (by kernel_rfl) (by kernel_rfl) (by kernel_rfl) (fun _ _ _ h => h) (by rfl) hHeld ?_
          try simp only [Act.put, List.setIfInBounds_toArray, List.set_cons_zero, List.set_cons_succ]
          refine held_off (i := 42) (d := (some 82)) rfl rfl (by kernel_rfl) (by kernel_rfl) (by kernel_rfl) (fun _ _ _ h => h) (by rfl) hHeld ?_
          try simp only [Act.put, List.setIfInBounds_toArray, List.set_cons_zero, List.set_cons_succ]
          refine held_off (i := 43) (d := (some 83)) rfl rfl (by kernel_rfl) (by kernel_rfl) (by kernel_rfl) (fun _ _ _ h => h) (by rfl) hHeld ?_
          try simp only [Act.put, List.setIfInBounds_toArray, List.set_cons_zero, List.set_cons_succ]
          refine held_off (i := 44) (d := (some 84)) rfl rfl (by kernel_rfl) (by kernel_rfl) (by kernel_rfl) (fun _ _ _ h => h) (by rfl) hHeld ?_
          try simp only [Act.put, List.setIfInBounds_toArray, List.set_cons_zero, List.set_cons_succ]
          refine held_off (i := 45) (d := (some 85)) rfl rfl (by kernel_rfl) (by kernel_rfl) (by kernel_rfl) (fun _ _ _ h => h) (by rfl) hHeld ?_
          try simp only [Act.put, List.setIfInBounds_toArray, List.set_cons_zero, List.set_cons_succ]
          refine held_on (i := 46) (d := (some 86)) (v := ?_) rfl rfl (by kernel_rfl) (by kernel_rfl) (by kernel_rfl) (fun _ _ _ h => h) (by rfl) hHeld ?_ ?_
          rotate_left
          focus (intro w hSw; have hSc := HSS.out w hSw; clear hSw; go_simp; first | done | with_reducible rfl)
          try simp only [Act.put, List.setIfInBounds_toArray, List.set_cons_zero, List.set_cons_succ]
          refine held_on (i := 47) (d := (some 87)) (v := ?_) rfl rfl (by kernel_rfl) (by kernel_rfl) (by kernel_rfl) (fun _ _ _ h => h) (by rfl) hHeld ?_ ?_
          rotate_left
          focus (intro w hSw; have hSc := HSS.out w hSw; clear hSw; go_simp; first | done | with_reducible rfl)
          try simp only [Act.put, List.setIfInBounds_toArray, List.set_cons_zero, List.set_cons_succ]
          refine held_on (i := 48) (d := (some 4)) (v := ?_) rfl rfl (by kernel_rfl) (by kernel_rfl) (by kernel_rfl) (fun _ _ _ h => h) (by rfl) hHeld ?_ ?_
          rotate_left
          focus (intro w hSw; have hSc := HSS.out w hSw; clear hSw; go_simp; first | done | with_reducible rfl)
          try simp only [Act.put, List.setIfInBounds_toArray, List.set_cons_zero, List.set_cons_succ]
          refine wpAnyH_done (by kernel_rfl) ?_ _
          have HX9 := Lib.hid (HX3.out.trans hHeld)
          go_wp2_with fail
          go_ret
          exact ⟨rfl, HX9.out⟩
        · go_wp2_with fail
          refine (HHC.out _ (Ext.refl wr)).mono ?_
          rintro e w5 ⟨rfl, rfl⟩
          go_wp2_with fail
          clear c2
          refine wp_region_held_drew (S := (fun w' => Ext wr w')) (by kernel_rfl) (((Ext.refl wr).drew)) (fun hHeld => ?_)
          refine held_on (i := 0) (d := (some 40)) (v := ?_) rfl rfl (by kernel_rfl) (by kernel_rfl) (by kernel_rfl) (fun _ _ _ h => h) (by rfl) hHeld ?_ ?_
          rotate_left
          focus (intro w hSw; have hSc := HSS.out w hSw; clear hSw; go_simp; first | done | with_reducible rfl)
          try simp only [Act.put, List.setIfInBounds_toArray, List.set_cons_zero, List.set_cons_succ]
          refine held_call (i := 1) (by kernel_rfl) rfl (by rfl) (fun K hK => ?_)
          go_simp
          (refine (HMC.out _ hHeld).mono ?_; rintro e w6 ⟨rfl, hx6⟩)
          refine hK.out _ _ (hHeld.trans hx6) (fun hHeld => ?_)
          clear hK K
          try simp only [Act.put, List.setIfInBounds_toArray, List.set_cons_zero, List.set_cons_succ]
          refine held_on (i := 2) (d := (some 42)) (v := ?_) rfl rfl (by kernel_rfl) (by kernel_rfl) (by kernel_rfl) (fun _ _ _ h => h) (by rfl) hHeld ?_ ?_
          rotate_left
          focus (intro w hSw; have hSc := HSS.out w hSw; clear hSw; go_simp; first | done | with_reducible rfl)
          try simp only [Act.put, List.setIfInBounds_toArray, List.set_cons_zero, List.set_cons_succ]
          refine held_on (i := 3) (d := (some 43)) (v := ?_) rfl rfl (by kernel_rfl) (by kernel_rfl) (by kernel_rfl) (fun _ _ _ h => h) (by rfl) hHeld ?_ ?_
          rotate_left
          focus (intro w hSw; have hSc := HSS.out w hSw; clear hSw; go_simp; first | done | with_reducible rfl)
          try simp only [Act.put, List.setIfInBounds_toArray, List.set_cons_zero, List.set_cons_succ]
          refine held_call (i := 4) (by kernel_rfl) rfl (by rfl) (fun K hK => ?_)
          go_simp
          (refine (HSC.out _ hHeld).mono ?_; rintro e w7 ⟨rfl, hx7⟩)
          refine hK.out _ _ (hHeld.trans hx7) (fun hHeld => ?_)
          clear hK K
          try simp only [Act.put, List.setIfInBounds_toArray, List.set_cons_zero, List.set_cons_succ]
          refine held_on (i := 5) (d := (some 45)) (v := ?_) rfl rfl (by kernel_rfl) (by kernel_rfl) (by kernel_rfl) (fun _ _ _ h => h) (by rfl) hHeld ?_ ?_
          rotate_left
          focus (intro w hSw; have hSc := HSS.out w hSw; clear hSw; go_simp; first | done | with_reducible rfl)
          try simp only [Act.put, List.setIfInBounds_toArray, List.set_cons_zero, List.set_cons_succ]
          refine held_on (i := 6) (d := (some 46)) (v := ?_) rfl rfl (by kernel_rfl) (by kernel_rfl) (by kernel_rfl) (fun _ _ _ h => h) (by rfl) hHeld ?_ ?_
          rotate_left
          focus (intro w hSw; have hSc := HSS.out w hSw; clear hSw; go_simp; first | done | with_reducible rfl)
          try simp only [Act.put, List.setIfInBounds_toArray, List.set_cons_zero, List.set_cons_succ]
          refine held_on (i := 7) (d := (some 47)) (v := ?_) rfl rfl (by kernel_rfl) (by kernel_rfl) (by kernel_rfl) (fun _ _ _ h => h) (by rfl) hHeld ?_ ?_
          rotate_left
          focus (intro w hSw; have hSc := HSS.out w hSw; clear hSw; go_simp; first | done | with_reducible rfl)
          try simp only [Act.put, List.setIfInBounds_toArray, List.set_cons_zero, List.set_cons_succ]
          refine held_on (i := 9) (d := (some 49)) (v := ?_) rfl rfl (by kernel_rfl) (by kernel_rfl) (by kernel_rfl) (fun _ _ _ h => h) (by rfl) hHeld ?_ ?_
          rotate_left
          focus (intro w hSw; have hSc := HSS.out w hSw; clear hSw; go_simp; first | done | with_reducible rfl)
          try simp only [Act.put, List.setIfInBounds_toArray, List.set_cons_zero, List.set_cons_succ]
          refine held_on (i := 10) (d := (some 50)) (v := ?_) rfl rfl (by kernel_rfl) (by kernel_rfl) (by kernel_rfl) (fun _ _ _ h => h) (by rfl) hHeld ?_ ?_
          rotate_left
          focus (intro w hSw; have hSc := HSS.out w hSw; clear hSw; go_simp; first | done | with_reducible rfl)
          try simp only [Act.put, List.setIfInBounds_toArray, List.set_cons_zero, List.set_cons_succ]
          refine held_on (i := 11) (d := (some 51)) (v := ?_) rfl rfl (by kernel_rfl) (by kernel_rfl) (by kernel_rfl) (fun _ _ _ h => h) (by rfl) hHeld ?_ ?_
          rotate_left
          focus (intro w hSw; have hSc := HSS.out w hSw; clear hSw; go_simp; first | done | with_reducible rfl)
          try simp only [Act.put, List.setIfInBounds_toArray, List.set_cons_zero, List.set_cons_succ]
          refine held_on (i := 12) (d := (some 52)) (v := ?_) rfl rfl (by kernel_rfl) (by kernel_rfl) (by kernel_rfl) (fun _ _ _ h => h) (by rfl) hHeld ?_ ?_
          rotate_left
          focus (intro w hSw; have hSc := HSS.out w hSw; clear hSw; go_simp; first | done | with_reducible rfl)
          try simp only [Act.put, List.setIfInBounds_toArray, List.set_cons_zero, List.set_cons_succ]
          refine held_call (i := 8) (by kernel_rfl) rfl (by rfl) (fun K hK => ?_)
          go_simp
          (refine (HFC.out _ hHeld).mono ?_; rintro e w8 ⟨s8, ys8, rfl, he8, hes8, hx8⟩; have HE8 := Lib.hid he8; clear he8)
          refine hK.out _ _ (hHeld.trans hx8) (fun hHeld => ?_)
          clear hK K
          try simp only [Act.put, List.setIfInBounds_toArray, List.set_cons_zero, List.set_cons_succ]
          refine held_call (i := 13) (by kernel_rfl) rfl (by rfl) (fun K hK => ?_)
          go_simp
          (refine (HSE.out _ s8 ys8 hHeld hes8 HE8.out).mono ?_; rintro e w9 ⟨rfl, hx9⟩)
          refine hK.out _ _ (hHeld.trans hx9) (fun hHeld => ?_)
          clear hK K
          try simp only [Act.put, List.setIfInBounds_toArray, List.set_cons_zero, List.set_cons_succ]
          refine held_on (i := 14) (d := (some 54)) (v := ?_) rfl rfl (by kernel_rfl) (by kernel_rfl) (by kernel_rfl) (fun _ _ _ h => h) (by rfl) hHeld ?_ ?_
          rotate_left
          focus (intro w hSw; have hSc := HSS.out w hSw; clear hSw; go_simp; first | done | with_reducible rfl)
          try simp only [Act.put, List.setIfInBounds_toArray, List.set_cons_zero, List.set_cons_succ]
          refine held_on (i := 15) (d := (some 55)) (v := ?_) rfl rfl (by kernel_rfl) (by kernel_rfl) (by kernel_rfl) (fun _ _ _ h => h) (by rfl) hHeld ?_ ?_
          rotate_left
          focus (intro w hSw; have hSc := HSS.out w hSw; clear hSw; go_simp; first | done | with_reducible rfl)
          try simp only [Act.put, List.setIfInBounds_toArray, List.set_cons_zero, List.set_cons_succ]
          refine held_on (i := 16) (d := (some 56)) (v := ?_) rfl rfl (by kernel_rfl) (by kernel_rfl) (by kernel_rfl) (fun _ _ _ h => h) (by rfl) hHeld ?_ ?_
          rotate_left
          focus (intro w hSw; have hSc := HSS.out w hSw; clear hSw; go_simp; first | done | with_reducible rfl)
          try simp only [Act.put, List.setIfInBounds_toArray, List.set_cons_zero, List.set_cons_succ]
          refine held_on (i := 18) (d := (some 58)) (v := ?_) rfl rfl (by kernel_rfl) (by kernel_rfl) (by kernel_rfl) (fun _ _ _ h => h) (by rfl) hHeld ?_ ?_
          rotate_left
          focus (intro w hSw; have hSc := HSS.out w hSw; clear hSw; go_simp; first | done | with_reducible rfl)
          try simp only [Act.put, List.setIfInBounds_toArray, List.set_cons_zero, List.set_cons_succ]
          refine held_on (i := 19) (d := (some 59)) (v := ?_) rfl rfl (by kernel_rfl) (by kernel_rfl) (by kernel_rfl) (fun _ _ _ h => h) (by rfl) hHeld ?_ ?_
          rotate_left
          focus (intro w hSw; have hSc := HSS.out w hSw; clear hSw; go_simp; first | done | with_reducible rfl)
          try simp only [Act.put, List.setIfInBounds_toArray, List.set_cons_zero, List.set_cons_succ]
          refine held_on (i := 20) (d := (some 60)) (v := ?_) rfl rfl (by kernel_rfl) (by kernel_rfl) (by kernel_rfl) (fun _ _ _ h => h) (by rfl) hHeld ?_ ?_
          rotate_left
          focus (intro w hSw; have hSc := HSS.out w hSw; clear hSw; go_simp; first | done | with_reducible rfl)
          try simp only [Act.put, List.setIfInBounds_toArray, List.set_cons_zero, List.set_cons_succ]
          refine held_on (i := 21) (d := (some 61)) (v := ?_) rfl rfl (by kernel_rfl) (by kernel_rfl) (by kernel_rfl) (fun _ _ _ h => h) (by rfl) hHeld ?_ ?_
          rotate_left
          focus (intro w hSw; have hSc := HSS.out w hSw; clear hSw; go_simp; first | done | with_reducible rfl)
          try simp only [Act.put, List.setIfInBounds_toArray, List.set_cons_zero, List.set_cons_succ]
          refine held_call (i := 17) (by kernel_rfl) rfl (by rfl) (fun K hK => ?_)
          go_simp
          (refine (HEC.out _ hHeld).mono ?_; rintro e wa ⟨sa, ysa, rfl, hea, hesa, hxa⟩; have HEA := Lib.hid hea; clear hea)
          refine hK.out _ _ (hHeld.trans hxa) (fun hHeld => ?_)
          clear hK K
          try simp only [Act.put, List.setIfInBounds_toArray, List.set_cons_zero, List.set_cons_succ]
          refine held_call (i := 22) (by kernel_rfl) rfl (by rfl) (fun K hK => ?_)
          go_simp
          (refine (HSE.out _ sa ysa hHeld hesa HEA.out).mono ?_; rintro e wb ⟨rfl, hxb⟩)
          refine hK.out _ _ (hHeld.trans hxb) (fun hHeld => ?_)
          clear hK K
          try simp only [Act.put, List.setIfInBounds_toArray, List.set_cons_zero, List.set_cons_succ]
          refine held_on (i := 23) (d := (some 63)) (v := ?_) rfl rfl (by kernel_rfl) (by kernel_rfl) (by kernel_rfl) (fun _ _ _ h => h) (by rfl) hHeld ?_ ?_
          rotate_left
          focus (intro w hSw; have hSc := HSS.out w hSw; clear hSw; go_simp; first | done | with_reducible rfl)
          try simp only [Act.put, List.setIfInBounds_toArray, List.set_cons_zero, List.set_cons_succ]
          refine held_on (i := 24) (d := (some 64)) (v := ?_) rfl rfl (by kernel_rfl) (by kernel_rfl) (by kernel_rfl) (fun _ _ _ h => h) (by rfl) hHeld ?_ ?_
          rotate_left
          focus (intro w hSw; have hSc := HSS.out w hSw; clear hSw; go_simp; first | done | with_reducible rfl)
          try simp only [Act.put, List.setIfInBounds_toArray, List.set_cons_zero, List.set_cons_succ]
          refine held_on (i := 25) (d := (some 65)) (v := ?_) rfl rfl (by kernel_rfl) (by kernel_rfl) (by kernel_rfl) (fun _ _ _ h => h) (by rfl) hHeld ?_ ?_
          rotate_left
          focus (intro w hSw; have hSc := HSS.out w hSw; clear hSw; go_simp; first | done | with_reducible rfl)
          try simp only [Act.put, List.setIfInBounds_toArray, List.set_cons_zero, List.set_cons_succ]
          refine held_on (i := 27) (d := (some 67)) (v := ?_) rfl rfl (by kernel_rfl) (by kernel_rfl) (by kernel_rfl) (fun _ _ _ h => h) (by rfl) hHeld ?_ ?_
          rotate_left
          focus (intro w hSw; have hSc := HSS.out w hSw; clear hSw; go_simp; first | done | with_reducible rfl)
          try simp only [Act.put, List.setIfInBounds_toArray, List.set_cons_zero, List.set_cons_succ]
          refine held_on (i := 28) (d := (some 68)) (v := ?_) rfl rfl (by kernel_rfl) (by kernel_rfl) (by kernel_rfl) (fun _ _ _ h => h) (by rfl) hHeld ?_ ?_
          rotate_left
          focus (intro w hSw; have hSc := HSS.out w hSw; clear hSw; go_simp; first | done | with_reducible rfl)
          try simp only [Act.put, List.setIfInBounds_toArray, List.set_cons_zero, List.set_cons_succ]
          refine held_on (i := 29) (d := (some 69)) (v := ?_) rfl rfl (by kernel_rfl) (by kernel_rfl) (by kernel_rfl) (fun _ _ _ h => h) (by rfl) hHeld ?_ ?_
          rotate_left
          focus (intro w hSw; have hSc := HSS.out w hSw; clear hSw; go_simp; first | done | with_reducible rfl)
          try simp only [Act.put, List.setIfInBounds_toArray, List.set_cons_zero, List.set_cons_succ]
          refine held_on (i := 30) (d := (some 70)) (v := ?_) rfl rfl (by kernel_rfl) (by kernel_rfl) (by kernel_rfl) (fun _ _ _ h => h) (by rfl) hHeld ?_ ?_
          rotate_left
          focus (intro w hSw; have hSc := HSS.out w hSw; clear hSw; go_simp; first | done | with_reducible rfl)
          try simp only [Act.put, List.setIfInBounds_toArray, List.set_cons_zero, List.set_cons_succ]
          refine held_on (i := 31) (d := (some 71)) (v := ?_) rfl rfl (by kernel_rfl) (by kernel_rfl) (by kernel_rfl) (fun _ _ _ h => h) (by rfl) hHeld ?_ ?_
          rotate_left
          focus (intro w hSw; have hSc := HSS.out w hSw; clear hSw; go_simp; first | done | with_reducible rfl)
          try simp only [Act.put, List.setIfInBounds_toArray, List.set_cons_zero, List.set_cons_succ]
          refine held_call (i := 26) (by kernel_rfl) rfl (by rfl) (fun K hK => ?_)
          go_simp
          (refine (HLC.out _ hHeld).mono ?_; rintro e wc ⟨rfl, hxc⟩)
          refine hK.out _ _ (hHeld.trans hxc) (fun hHeld => ?_)
          clear hK K
          try simp only [Act.put, List.setIfInBounds_toArray, List.set_cons_zero, List.set_cons_succ]
          refine held_on (i := 32) (d := (some 72)) (v := ?_) rfl rfl (by kernel_rfl) (by kernel_rfl) (by kernel_rfl) (fun _ _ _ h => h) (by rfl) hHeld ?_ ?_
          rotate_left
          focus (intro w hSw; have hSc := HSS.out w hSw; clear hSw; go_simp; first | done | with_reducible rfl)
          try simp only [Act.put, List.setIfInBounds_toArray, List.set_cons_zero, List.set_cons_succ]
          refine held_on (i := 33) (d := (some 73)) (v := ?_) rfl rfl (by kernel_rfl) (by kernel_rfl) (by kernel_rfl) (fun _ _ _ h => h) (by rfl) hHeld ?_ ?_
          rotate_left
          focus (intro w hSw; have hSc := HSS.out w hSw; clear hSw; go_simp; first | done | with_reducible rfl)
          try simp only [Act.put, List.setIfInBounds_toArray, List.set_cons_zero, List.set_cons_succ]
          refine held_on (i := 34) (d := (some 74)) (v := ?_) rfl rfl (by kernel_rfl) (by kernel_rfl) (by kernel_rfl) (fun _ _ _ h => h) (by rfl) hHeld ?_ ?_
          rotate_left
          focus (intro w hSw; have hSc := HSS.out w hSw; clear hSw; go_simp; first | done | with_reducible rfl)
          try simp only [Act.put, List.setIfInBounds_toArray, List.set_cons_zero, List.set_cons_succ]
          refine held_on (i := 35) (d := (some 75)) (v := ?_) rfl rfl (by kernel_rfl) (by kernel_rfl) (by kernel_rfl) (fun _ _ _ h => h) (by rfl) hHeld ?_ ?_
          rotate_left
          focus (intro w hSw; have hSc := HSS.out w hSw; clear hSw; go_simp; first | done | with_reducible rfl)
          try simp only [Act.put, List.setIfInBounds_toArray, List.set_cons_zero, List.set_cons_succ]
          refine held_call (i := 36) (by kernel_rfl) rfl (by rfl) (fun K hK => ?_)
          go_simp
          (refine (HHC.out _ hHeld).mono ?_; rintro e wd ⟨rfl, rfl⟩)
          refine hK.out _ _ (hHeld) (fun hHeld => ?_)
          clear hK K
          try simp only [Act.put, List.setIfInBounds_toArray, List.set_cons_zero, List.set_cons_succ]
          refine held_on (i := 37) (d := (some 77)) (v := ?_) rfl rfl (by kernel_rfl) (by kernel_rfl) (by kernel_rfl) (fun _ _ _ h => h) (by rfl) hHeld ?_ ?_
          rotate_left
          focus (intro w hSw; have hSc := HSS.out w hSw; clear hSw; go_simp; first | done | with_reducible rfl)
          try simp only [Act.put, List.setIfInBounds_toArray, List.set_cons_zero, List.set_cons_succ]
          refine held_on (i := 38) (d := (some 78)) (v := ?_) rfl rfl (by kernel_rfl) (by kernel_rfl) (by kernel_rfl) (fun _ _ _ h => h) (by rfl) hHeld ?_ ?_
          rotate_left
          focus (intro w hSw; have hSc := HSS.out w hSw; clear hSw; go_simp; first | done | with_reducible rfl)
          try simp only [Act.put, List.setIfInBounds_toArray, List.set_cons_zero, List.set_cons_succ]
          refine held_on (i := 39) (d := (some 79)) (v := ?_) rfl rfl (by kernel_rfl) (by kernel_rfl) (by kernel_rfl) (fun _ _ _ h => h) (by rfl) hHeld ?_ ?_
          rotate_left
          focus (intro w hSw; have hSc := HSS.out w hSw; clear hSw; go_simp; first | done | with_reducible rfl)
          try simp only [Act.put, List.setIfInBounds_toArray, List.set_cons_zero, List.set_cons_succ]
          refine held_on (i := 40) (d := (some 80)) (v := ?_) rfl rfl (by kernel_rfl) (by kernel_rfl) (by kernel_rfl) (fun _ _ _ h => h) (by rfl) hHeld ?_ ?_
          rotate_left
          focus (intro w hSw; have hSc := HSS.out w hSw; clear hSw; go_simp; first | done | with_reducible rfl)
          try simp only [Act.put, List.setIfInBounds_toArray, List.set_cons_zero, List.set_cons_succ]
          refine held_on (i := 41) (d := (some 81)) (v := ?_) rfl rfl (by kernel_rfl) (by kernel_rfl) (by kernel_rfl) (fun _ _ _ h => h) (by rfl) hHeld ?_ ?_
          rotate_left
          focus (intro w hSw; have hSc := HSS.out w hSw; clear hSw; go_simp; first | done | with_reducible rfl)
          try simp only [Act.put, List.setIfInBounds_toArray, List.set_cons_zero, List.set_cons_succ]
          refine held_on (i := 42) (d := (some 82)) (v := ?_) rfl rfl (by kernel_rfl) (by kernel_rfl) (by kernel_rfl) (fun _ _ _ h => h) (by rfl) hHeld ?_ ?_
          rotate_left
          focus (intro w hSw; have hSc := HSS.out w hSw; clear hSw; go_simp; first | done | with_reducible rfl)
          try simp only [Act.put, List.setIfInBounds_toArray, List.set_cons_zero, List.set_cons_succ]
          refine held_on (i := 43) (d := (some 83)) (v := ?_) rfl rfl (by kernel_rfl) (by kernel_rfl) (by kernel_rfl) (fun _ _ _ h => h) (by rfl) hHeld ?_ ?_
          rotate_left
          focus (intro w hSw; have hSc := HSS.out w hSw; clear hSw; go_simp; first | done | with_reducible rfl)
          try simp only [Act.put, List.setIfInBounds_toArray, List.set_cons_zero, List.set_cons_succ]
          refine held_on (i := 44) (d := (some 84)) (v := ?_) rfl rfl (by kernel_rfl) (by kernel_rfl) (by kernel_rfl) (fun _ _ _ h => h) (by rfl) hHeld ?_ ?_
          rotate_left
          focus (intro w hSw; have hSc := HSS.out w hSw; clear hSw; go_simp; first | done | with_reducible rfl)
          try simp only [Act.put, List.setIfInBounds_toArray, List.set_cons_zero, List.set_cons_succ]
          refine held_on (i := 45) (d := (some 85)) (v := ?_) rfl rfl (by kernel_rfl) (by kernel_rfl) (by kernel_rfl) (fun _ _ _ h => h) (by rfl) hHeld ?_ ?_
          rotate_left
          focus (intro w hSw; have hSc := HSS.out w hSw; clear hSw; go_simp; first | done | with_reducible rfl)
          try simp only [Act.put, List.setIfInBounds_toArray, List.set_cons_zero, List.set_cons_succ]
          refine held_on (i := 46) (d := (some 86)) (v := ?_) rfl rfl (by kernel_rfl) (by kernel_rfl) (by kernel_rfl) (fun _ _ _ h => h) (by rfl) hHeld ?_ ?_
          rotate_left
          focus (intro w hSw; have hSc := HSS.out w hSw; clear hSw; go_simp; first | done | with_reducible rfl)
          try simp only [Act.put, List.setIfInBounds_toArray, List.set_cons_zero, List.set_cons_succ]
          refine held_on (i := 47) (d := (some 87)) (v := ?_) rfl rfl (by kernel_rfl) (by kernel_rfl) (by kernel_rfl) (fun _ _ _ h => h) (by rfl) hHeld ?_ ?_
          rotate_left
          focus (intro w hSw; have hSc := HSS.out w hSw; clear hSw; go_simp; first | done | with_reducible rfl)
          try simp only [Act.put, List.setIfInBounds_toArray, List.set_cons_zero, List.set_cons_succ]
          refine held_on (i := 48) (d := (some 4)) (v := ?_) rfl rfl (by kernel_rfl) (by kernel_rfl) (by kernel_rfl) (fun _ _ _ h => h) (by rfl) hHeld ?_ ?_
          rotate_left
          focus (intro w hSw; have hSc := HSS.out w hSw; clear hSw; go_simp; first | done | with_reducible rfl)
          try simp only [Act.put, List.setIfInBounds_toArray, List.set_cons_zero, List.set_cons_succ]
          refine wpAnyH_done (by kernel_rfl) ?_ _
          have HX9 := Lib.hid (HX3.out.trans hHeld)
          go_wp2_with fail
          go_ret
          exact ⟨rfl, HX9.out⟩
end Go.Proofs.Ytohajcflklejjaa
namespace Go.Proofs.Ytohajcflklejjaa
section
variable {P : Program} {ops : Array Oper} {Q : Exit → Act → World → Prop} {md : Region.Mode} {S : World → Prop}
theorem held_two {i j : Nat} {oi oj : Oper} {fuel : Nat} {listed : Array Bool} {a : Act} {w : World} (hr : Region.ready md ops listed = [i, j]) (hi : ops[i]? = some oi) (hj : ops[j]? = some oj) (hw : Region.wanted oi (yielded ops a.tmps) = true) (hv : Region.wanted oj (yielded ops a.tmps) = true)
    (h : ∀ K' : Act → World → Prop, Shut (∀ a w, S w → (S w → wpAnyH P md ops Q S fuel (listed.setIfInBounds i true) a w) → K' a w) → Oper.wp P oi a w K' Q)
    (h' : ∀ K' : Act → World → Prop, Shut (∀ a w, S w → (S w → wpAnyH P md ops Q S fuel (listed.setIfInBounds j true) a w) → K' a w) → Oper.wp P oj a w K' Q) : wpAnyH P md ops Q S (fuel + 1) listed a w :=
  wpAnyH_ready hr (by simp) (AllReadyH.cons hi (fun K' hK => by rw [if_pos hw]; exact h K' hK) (AllReadyH.cons hj (fun K' hK => by rw [if_pos hv]; exact h' K' hK) AllReadyH.nil))
end
end Go.Proofs.Ytohajcflklejjaa
namespace Go.Proofs.Ytohajcflklejjaa
open Go.RowKit
set_option linter.unusedVariables false
set_option linter.unusedSimpArgs false
structure PlayI (H : Nat → Prop) (M : Nat) (T : RT) (W : World) : Prop where
  map : MapAt H W M (entsT T)
  tree : IsT W (NH H W) T
  ok : OkR T
abbrev Wd (H : Nat → Prop) (lo hi : Nat) : Nat → Prop := fun b => H b ∨ (lo ≤ b ∧ b < hi)
theorem PlayI.st {H G : Nat → Prop} {M : Nat} {T : RT} {w w' : World} (h : PlayI H M T w) (k : St G w w') (hG : ∀ b, G b → H b) (hM : ¬ G M) : PlayI H M T w' :=
  ⟨h.map.st k hG hM, (h.tree.agree fun b hb => k.block b hb.1 fun hh => hb.2 (hG b hh)).mono fun i hi => ⟨Nat.lt_of_lt_of_le hi.1 k.size, hi.2⟩, h.ok⟩
theorem PlayI.ext {H : Nat → Prop} {M : Nat} {T : RT} {w w' : World} (h : PlayI H M T w) (k : Ext w w') : PlayI H M T w' := h.st (k.st fun _ => False) (fun _ hb => hb.elim) (fun hb => hb)
theorem PlayI.wide {H : Nat → Prop} {M : Nat} {T : RT} {w : World} (h : PlayI H M T w) (N : Nat) : PlayI (Wd H w.heap.size N) M T w :=
  ⟨h.map.wide N, h.tree.mono fun i hi => ⟨hi.1, fun hh => hh.elim hi.2 fun hh => by have := hi.1; omega⟩, h.ok⟩
theorem PlayI.less {G H : Nat → Prop} {M : Nat} {T : RT} {w : World} (h : PlayI G M T w) (hG : ∀ b, H b → G b) (hm : H M) : PlayI H M T w :=
  ⟨h.map.less hG hm, h.tree.mono fun i hi => ⟨hi.1, fun hh => hi.2 (hG i hh)⟩, h.ok⟩
theorem doI {H : Nat → Prop} {M : Nat} {T : RT} {wr : World} {a : LA} (hI : PlayI H M T wr) (hH : ∀ b, H b → b < wr.heap.size) (hc : (entsT T).length ≤ 900000) (hk : a.k.size ≤ maxLen) (hv : RV wr (NH H wr) a.v a.sl a.so) {p : Option Addr} (hp : rootV T = .pointer p) (W : World) (hW : Ext wr W) :
    Calls Try.prog 13 #[.agg #[.pointer p], .pointer (some ⟨M, 0, none⟩), aggA a] W fun e w' => ∃ (T' : RT) (p' : Option Addr), e = .returned (.tuple #[.agg #[.pointer p'], .int .i64 1]) ∧ rootV T' = .pointer p' ∧ StepR wr.heap.size a.kd a.k a.v T T' ∧ PlayI (Wd H wr.heap.size W.heap.size) M T' w' ∧ St (fun b => b = M) W w' := by
  have hI' := (hI.wide W.heap.size).ext hW
  have := do_any (a := a) (fun b hb => hb.elim (fun hb => Nat.lt_of_lt_of_le (hH b hb) hW.size) fun hb => hb.2) hI'.map hI'.tree hI'.ok hc hk ((hv.agree (hW.agree fun b hb => hb.1)).mono fun i hi => ⟨Nat.lt_of_lt_of_le hi.1 hW.size, fun hh => hh.elim hi.2 fun hh => by have := hi.1; omega⟩)
  rw [treeV, hp] at this
  refine this.mono ?_
  rintro e w' ⟨T', rfl, hs, hT, hM, hst⟩
  obtain ⟨p', hp'⟩ := rootV_ptr T'
  refine ⟨T', p', by rw [treeV, hp'], hp', ?_, ⟨hM, hT, hs.ok hI.ok⟩, hst⟩
  rcases hs with ⟨h1, h2⟩ | ⟨h1, h2⟩ | h
  · exact .inl ⟨h1, h2.mono hW.size⟩
  · exact .inr (.inl ⟨h1, h2.mono hW.size⟩)
  · exact .inr (.inr h)
theorem PlayI.nil {H : Nat → Prop} {w : World} {M : Nat} (hm : H M) (hb : Blk w M 42 #[.slice none 0 0]) : PlayI H M none w :=
  ⟨⟨hm, Sl.none, [], hb, ES.nil _ _, rfl⟩, trivial, trivial⟩
theorem sndI {H : Nat → Prop} {M : Nat} {T : RT} {w : World} (hI : PlayI H M T w) (hc : (entsT T).length ≤ 40000) {p : Option Addr} (hp : rootV T = .pointer p) (W : World) (hW : Ext w W) :
    Calls Try.prog 14 #[.agg #[.pointer p], .pointer (some ⟨M, 0, none⟩)] W fun e w' => e = .returned (.bool true) ∧ Ext W w' := by
  have hI' := hI.ext hW
  have := snd07 (F := NH H W) (fun b hb => hb.1) hI'.map hI'.tree hI'.ok hc
  rwa [treeV, hp] at this
end Go.Proofs.Ytohajcflklejjaa
