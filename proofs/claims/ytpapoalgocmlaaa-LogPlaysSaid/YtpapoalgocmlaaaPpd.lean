/- What the theorem needs of the texts Mf, Same, SameB, PutB, Put19B, LogCopy, TrodL, LogPl: no condition of its own. -/
import Derived.ChangeArms
import Derived.DataReads
import Derived.Handed
import Derived.ChangeShapes
import Derived.WideShapes
import Derived.WideKeyArgs
import Derived.ChangeOld
import Derived.ProofKit
import Derived.OpenShut
import Derived.WalkKit
import Derived.Test.YtpapoalgocmlaaaPpa
import Derived.Test.YtpapoalgocmlaaaPpb
import Derived.Test.YtpapoalgocmlaaaPpc
namespace Go.Proofs.Ytpapoalgocmlaaa
open Go.RowKit
set_option linter.unusedVariables false
section
variable {H : Type} {enc : TypeId × Value → H} {P : Program} {w : World} {held : Bool}
abbrev WOk (P : Program) (t : TypeId) (d : DataW H) : Prop := (DataW.weights P t d).all (· ≤ reachBytes) = true
abbrev tr (enc : TypeId × Value → H) (P : Program) (w : World) (held : Bool) (fuel : Nat) (t : TypeId) (cs : List Value) : Option (DataW H × List MemPlace) := DataW.trod enc P w 0 (fun _ => true) held fuel t cs
theorem weightsAll_mem {e : TypeId} : ∀ {l : List (DataW H)}, (DataW.weightsAll P e l).all (· ≤ reachBytes) = true → ∀ d ∈ l, WOk P e d
  | [], _, d, hd => by cases hd
  | x :: l, h, d, hd => by
    simp only [DataW.weightsAll, List.all_append, Bool.and_eq_true] at h
    rcases List.mem_cons.1 hd with rfl | hd
    · exact h.1
    · exact weightsAll_mem h.2 d hd
theorem weightsEach_at : ∀ {ts : List TypeId} {ds : List (DataW H)}, (DataW.weightsEach P ts ds).all (· ≤ reachBytes) = true → ∀ (i : Nat) (t : TypeId) (d : DataW H), ts[i]? = some t → ds[i]? = some d → WOk P t d
  | [], _, _, i, t, d, ht, _ => by simp at ht
  | t :: ts, [], _, i, t', d, _, hd => by simp at hd
  | t :: ts, d :: ds, h, i, t', d', ht, hd => by
    simp only [DataW.weightsEach, List.all_append, Bool.and_eq_true] at h
    cases i with
    | zero => simp at ht hd; subst ht hd; exact h.1
    | succ i => exact weightsEach_at h.2 i t' d' (by simpa using ht) (by simpa using hd)
theorem trod_rows {t e : TypeId} {C B fuel : Nat} {cs : List Value} {x : DataW H × List MemPlace} (ht : P.underlying t = some (.slice e)) (hC : P.cellsOf e = C) (hB : P.bytesOf e = B) (hC0 : 0 < C)
    (h : tr enc P w held fuel t cs = some x) (hw : WOk P t x.1) :
    ∃ (n len : Nat) (s : Sl) (b o : Nat), fuel = n + 1 ∧ cs = [.slice s.a len s.c] ∧ SlAt (Lt w.heap.size) s len b o ∧ len * B ≤ 140737488351232 ∧
      ∀ i, i < len → ∃ cs' y, cs'.length = C ∧ (∀ j, j < C → w.cell? ⟨b, o + i * C + j, none⟩ = cs'[j]?) ∧ tr enc P w held n e cs' = some y ∧ WOk P e y.1 := by
  rcases DataW.trod_slice ht h with ⟨rfl, rfl⟩ | ⟨a, len, cap, elems, rest, n, rfl, rfl, rfl, -, hl, hm, hlen, hel, hsp, -⟩
  · cases fuel with
    | zero => simp [tr, DataW.trod] at h
    | succ n => exact ⟨n, 0, Sl.none, 0, 0, rfl, rfl, .nil _ _, by omega, fun i hi => by omega⟩
  · obtain ⟨hr, hrest⟩ := hsp rfl
    have hw0 : (elems.length + rest.length) * P.bytesOf e ≤ reachBytes ∧ (DataW.weightsAll P e (elems.map (·.1))).all (· ≤ reachBytes) = true := by
      have hw' := hw
      simp only [WOk, DataW.weights, ht, List.all_cons, List.all_append, Bool.and_eq_true, decide_eq_true_eq, List.length_map] at hw'
      exact ⟨hw'.1, hw'.2.1⟩
    rw [hB] at hw0
    rw [hC] at hel hrest
    by_cases hcap : cap = 0
    · subst hcap
      obtain rfl : len = 0 := by omega
      exact ⟨n, 0, ⟨some a, 0⟩, 0, 0, rfl, rfl, .zero a 0 0, by omega, fun i hi => by omega⟩
    · have hlb : len * B ≤ 140737488351232 := by
        have h1 : len * B ≤ (elems.length + rest.length) * B := Nat.mul_le_mul_right _ (by omega)
        have h2 := hw0.1
        have h3 : reachBytes = 140737488351232 := rfl
        omega
      have hex : ∃ z : DataW H × List MemPlace, ∃ k, (w.cells? 0 (a.add (k * C)) C).bind (tr enc P w held n e) = some z ∧ k = 0 := by
        by_cases h0 : 0 < len
        · exact ⟨elems[0]'(by omega), 0, by rw [hel 0 h0]; exact List.getElem?_eq_getElem (by omega), rfl⟩
        · have := hrest 0 (by omega)
          have e0 : len = 0 := by omega
          rw [e0, Nat.add_zero] at this
          exact ⟨rest[0]'(by omega), 0, by rw [this]; exact List.getElem?_eq_getElem (by omega), rfl⟩
      obtain ⟨z, k, hz, rfl⟩ := hex
      obtain ⟨cs0, hc0, -⟩ := Option.bind_eq_some_iff.1 hz
      obtain ⟨-, hl0, hat0⟩ := World.cells?_some hc0
      have hcell : w.cell? (a.add 0) = some (cs0[0]'(by omega)) := by
        have := hat0 0 hC0
        rw [Nat.zero_mul] at this
        rw [List.getElem?_eq_getElem (by omega)] at this
        simpa [Addr.add] using this
      obtain ⟨b, o, spot⟩ := a
      have hspot : spot = none := by simpa [Addr.add] using World.cell?_spot hcell
      subst hspot
      have hblk : b < w.heap.size := by
        have h1 : w.cell? ⟨b, o, none⟩ = some (cs0[0]'(by omega)) := by simpa [Addr.add] using hcell
        exact World.block_lt_of_cell? w _ h1
      refine ⟨n, len, ⟨some ⟨b, o, none⟩, cap⟩, b, o, rfl, rfl, .some _ _ _ _ hl hm hblk, hlb, fun i hi => ?_⟩
      have he := hel i hi
      rw [List.getElem?_eq_getElem (by omega)] at he
      obtain ⟨cs', h1, h2⟩ := Option.bind_eq_some_iff.1 he
      obtain ⟨-, hl1, hat1⟩ := World.cells?_some h1
      refine ⟨cs', _, hl1, fun j hj => ?_, h2, weightsAll_mem hw0.2 _ (List.mem_map_of_mem (List.getElem_mem (by omega)))⟩
      have := hat1 j hj
      rw [Go.WideShapes.add_plain, Go.WideShapes.add_plain] at this
      exact this
theorem trod_fields {t : TypeId} {fs : List Field} {fuel : Nat} {cs : List Value} {x : DataW H × List MemPlace} (ht : P.underlying t = some (.struct fs.toArray)) (h : tr enc P w held fuel t cs = some x) (hw : WOk P t x.1) :
    ∃ n, fuel = n + 1 ∧ cs.length = P.cellsOf t ∧ ∀ (i : Nat) (f : Field), fs[i]? = some f → ∃ y, tr enc P w held n f.type ((cs.drop f.offset).take (P.cellsOf f.type)) = some y ∧ WOk P f.type y.1 := by
  obtain ⟨xs, n, rfl, rfl, hl, hlen, hf⟩ := DataW.trod_struct ht h
  refine ⟨n, rfl, hl, fun i f hi => ?_⟩
  have hw' : (DataW.weightsEach P (fs.map (·.type)) (xs.map (·.1))).all (· ≤ reachBytes) = true := by
    have := hw
    simpa [WOk, DataW.weights, ht] using this
  have hil : i < fs.length := (List.getElem?_eq_some_iff.1 hi).1
  have h1 := hf i f (by simpa using hi)
  have hxl : i < xs.length := by simp at hlen; omega
  rw [List.getElem?_eq_getElem hxl] at h1
  exact ⟨_, h1, weightsEach_at hw' i _ _ (by rw [List.getElem?_map, hi]; rfl) (by rw [List.getElem?_map, List.getElem?_eq_getElem hxl]; rfl)⟩
theorem trod_i {t : TypeId} {k : IntKind} {fuel : Nat} {cs : List Value} {x : DataW H × List MemPlace} (ht : P.underlying t = some (.int k)) (h : tr enc P w held fuel t cs = some x) : ∃ n, cs = [.int k n] ∧ (Lit.int k n).wf = true := by
  obtain ⟨n, h1, -, h2⟩ := DataW.trod_int ht h
  exact ⟨n, h1, h2⟩
end
theorem skolem {α : Type} [Inhabited α] {p : Nat → Prop} {q : Nat → α → Prop} (h : ∀ i, p i → ∃ a, q i a) : ∃ f : Nat → α, ∀ i, p i → q i (f i) := by
  have : ∀ i, ∃ y : α, p i → q i y := fun i => by
    by_cases hp : p i
    · obtain ⟨a, hq⟩ := h i hp
      exact ⟨a, fun _ => hq⟩
    · exact ⟨default, fun h => absurd h hp⟩
  exact Classical.axiomOfChoice this
instance : Inhabited Val := ⟨.mk 0 false 0 ByteArray.empty [] [] []⟩
instance : Inhabited Sl := ⟨Sl.none⟩
theorem at_of_take {cs l : List Value} {off k : Nat} (h : (cs.drop off).take k = l) {j : Nat} (hj : j < k) : cs[off + j]? = l[j]? := by
  rw [← h, List.getElem?_take, if_pos hj, List.getElem?_drop]
theorem ofFn_get {α : Type} {n : Nat} {f : Nat → α} {j : Nat} {d : α} (h : ((List.range n).map f)[j]? = some d) : j < n ∧ d = f j := by
  rw [List.getElem?_map] at h
  obtain ⟨k, hk, rfl⟩ := Option.map_eq_some_iff.1 h
  obtain ⟨h1, rfl⟩ := List.getElem?_eq_some_iff.1 hk
  simp at h1
  exact ⟨h1, by simp⟩
end Go.Proofs.Ytpapoalgocmlaaa
namespace Go.Proofs.Ytpapoalgocmlaaa
open Go.RowKit
set_option linter.unusedVariables false
set_option linter.unusedSimpArgs false
set_option maxRecDepth 100000
section
variable {H : Type} {enc : TypeId × Value → H} {w : World} {held : Bool}
structure LA where
  kd : Int
  k : ByteArray
  v : Val
  sl : Sl
  so : Sl
instance : Inhabited LA := ⟨⟨0, ByteArray.empty, default, Sl.none, Sl.none⟩⟩
structure ACells (w : World) (b o : Nat) (x : LA) : Prop where
  c0 : w.cell? ⟨b, o, none⟩ = some (.int .i64 x.kd)
  c1 : w.cell? ⟨b, o + 1, none⟩ = some (.string x.k)
  cv : VCells w b (o + 2) x.v x.sl x.so
structure AS (w : World) (F : Nat → Prop) (s : Sl) (xs : List LA) : Prop where
  ex : ∃ b o, SlAt F s xs.length b o ∧ ∀ j x, xs[j]? = some x → ACells w b (o + j * 8) x
  vals : ∀ x ∈ xs, RV w F x.v x.sl x.so ∧ x.k.size ≤ maxLen ∧ (Lit.int .i64 x.kd).wf = true
  few : xs.length * 112 ≤ 140737488355328
theorem AS.at {w : World} {F : Nat → Prop} {s : Sl} {xs : List LA} (h : AS w F s xs) {i : Nat} {x : LA} (hx : xs[i]? = some x) :
    ∃ b o, s.a = some ⟨b, o, none⟩ ∧ F b ∧ xs.length ≤ s.c ∧ s.c ≤ maxLen ∧ ACells w b (o + i * 8) x ∧ RV w F x.v x.sl x.so ∧ x.k.size ≤ maxLen ∧ (Lit.int .i64 x.kd).wf = true := by
  obtain ⟨b, o, h1, h2⟩ := h.ex
  obtain ⟨e1, e2, e3⟩ := h1.eq (lt_length hx)
  have hv := h.vals x (List.mem_of_getElem? hx)
  exact ⟨b, o, e1, h1.fits (lt_length hx), e2, e3, h2 i x hx, hv.1, hv.2⟩
theorem ACells.agree {w w' : World} {b o : Nat} {x : LA} (h : ACells w b o x) {F : Nat → Prop} (ha : Agree F w w') (hb : F b) : ACells w' b o x := ⟨(ha.cell hb).trans h.c0, (ha.cell hb).trans h.c1, h.cv.agree ha hb⟩
theorem AS.agree {w w' : World} {F : Nat → Prop} {s : Sl} {xs : List LA} (h : AS w F s xs) (ha : Agree F w w') : AS w' F s xs := by
  obtain ⟨⟨b, o, h1, h2⟩, h3, h4⟩ := h
  exact ⟨⟨b, o, h1, fun j x hx => (h2 j x hx).agree ha (h1.fits (lt_length hx))⟩, fun x hx => ⟨(h3 x hx).1.agree ha, (h3 x hx).2⟩, h4⟩
theorem AS.mono {w : World} {F G : Nat → Prop} {s : Sl} {xs : List LA} (h : AS w F s xs) (hG : ∀ i, F i → G i) : AS w G s xs := by
  obtain ⟨⟨b, o, h1, h2⟩, h3, h4⟩ := h
  exact ⟨⟨b, o, h1.mono hG, h2⟩, fun x hx => ⟨(h3 x hx).1.mono hG, (h3 x hx).2⟩, h4⟩
end
end Go.Proofs.Ytpapoalgocmlaaa
namespace Go.Proofs.Ytpapoalgocmlaaa
open Go.ChangeShapes Go.WideShapes Go.ChangeAt Go.RowKit
set_option linter.unusedVariables false
theorem trodAll_stays {H : Type} {enc : TypeId × Value → H} {P : Program} (hl : laidOutB P = true) {W W' : World} (hx : Below W.heap.size W W') (sp' : Nat → Bool) :
    ∀ {ts : List TypeId} {vs : List Value} {ds : List (DataW H)} {ps : List MemPlace}, (∀ t ∈ ts, P.readableRec t = true ∧ t < P.types.size) → DataW.TrodAll enc P W 0 (fun _ => true) true ts vs ds ps →
      (∀ p ∈ ps, p.block < W.heap.size) → (∀ p ∈ ps, sp' p.block = true) → DataW.TrodAll enc P W' 0 sp' true ts vs ds ps
  | [], vs, ds, ps, _, h, _, _ => by
    obtain ⟨rfl, rfl, rfl⟩ := trodAll_nil h
    exact rfl
  | t :: ts, vs, ds, ps, hr, h, hb, hs => by
    obtain ⟨v0, vs0, d0, ds0, p0, q0, rfl, rfl, rfl, h0, r0⟩ := trodAll_cons h
    refine ⟨p0, q0, Go.WideElems.Trod_stays hl (hr t (List.mem_cons_self ..)).1 (hr t (List.mem_cons_self ..)).2 h0 (fun p hp => ?_) (fun p hp => hs p (List.mem_append_left _ hp)),
      trodAll_stays hl hx sp' (fun t ht => hr t (List.mem_cons_of_mem _ ht)) r0 (fun p hp => hb p (List.mem_append_right _ hp)) (fun p hp => hs p (List.mem_append_right _ hp)), rfl⟩
    have hlt := hb p (List.mem_append_left _ hp)
    cases p with
    | cell b o => exact hx.cell (p := ⟨b, o, none⟩) hlt
    | map b => exact hx.block b hlt
theorem returnsInHanded_w {H : Type} {enc : TypeId × Value → H} {C : Checked} {os : Os} {f : FuncId} {fn : Func} {s : ChangeSpec} {conds : List PathCond} {apart fresh handsOn again : Bool}
    (own : ownKnob C.prog.godebug = none) (started : os.Started) (noInit : C.prog.inits.idxOf? f = none) (hfn : C.prog.funcs[f]? = some fn)
    (witness : ∃ (w : World) (tape : Tape) (i : Input), w.os = os ∧ (w.forCall tape i).Shaped C.prog ∧ i.vars = [] ∧ Input.okWide C.prog (w.forCall tape i) .any w.heap.size f i ∧
      s.pre6 enc C.prog fn conds apart (w.forCall tape i).memory i.args ∧ ({} : Assume).holds C.prog (lone (Frame.enter C.prog f i.args .normal) [] (w.forCall tape i)))
    (contract : ∀ (W : World) (base : Nat) (args : Array Value) (ds gs : List (DataW H)) (before : List MemPlace),
      (∀ (j : Nat) t v, fn.params[j]? = some t → args[j]? = some v → Value.okWide C.prog W .any base t v) →
      DataW.Whole enc C.prog fn.params.toList s.vars apart W args.toList ds gs before →
      (DataW.weightsEach C.prog (fn.params.toList ++ s.plain.varTypes C.prog) (ds ++ gs)).all (· ≤ reachBytes) = true →
      Calls C.prog f args W fun e W' => ∃ v, e = .returned v ∧ s.post enc C.prog fn apart fresh handsOn again W args v W') :
    ReturnsInHanded {} C os f .any (s.pre6 enc C.prog fn conds apart) (s.post enc C.prog fn apart fresh handsOn again) := by
  have e : s.pre6 enc C.prog fn conds apart = fun w args => (s.pre enc C.prog fn conds apart w args ∧ (fun (_ : World) (_ : Array Value) => True) w args) ∧ sizedMet enc C.prog fn (OpenSpec.ofChange s) apart w args := by
    funext w args
    simp [ChangeSpec.pre6]
  have h := returnsInHanded_of_change_and (C := C) (os := os) (f := f) (a := {}) (fresh := fresh) (handsOn := handsOn) (again := again) (X := fun _ _ => True) (fun _ _ _ _ _ => trivial) own started noInit hfn (by
    obtain ⟨w, t, i, h1, h2, h3, h4, h5, h6⟩ := witness
    rw [e] at h5
    exact ⟨w, t, i, h1, h2, h3, h4, h5, h6⟩) (fun W base args ds gs before h1 h2 h3 h4 _ _ => contract W base args ds gs before h1 h2 h4)
  rw [e]
  exact h
end Go.Proofs.Ytpapoalgocmlaaa
namespace Go.Proofs.Ytpapoalgocmlaaa
open Go.RowKit
set_option linter.unusedVariables false
set_option linter.unusedSimpArgs false
theorem Vals.agree' {w w' : World} {F : Nat → Prop} {xs : List LE} (h : Vals w F xs) (ha : Agree F w w') : Vals w' F xs := fun x hx => ⟨(h x hx).1.agree ha, (h x hx).2⟩
structure OV (w : World) (base : Nat) (F : Nat → Prop) (s : Sl) (xs : List LE) : Prop where
  own : w.ownsRow base 56 7 (.slice s.a xs.length s.c) xs.length (flatE xs)
  vals : Vals w F xs
  few : xs.length * 104 ≤ 140737488355328
theorem OV.nil (w : World) (base : Nat) (F : Nat → Prop) : OV w base F Sl.none [] := ⟨World.ownsRow_nil _ _ _ _, fun x h => by simp at h, by simp⟩
theorem OV.append {w w' : World} {base : Nat} {F : Nat → Prop} {s s' : Sl} {xs ys : List LE} (hF : ∀ b, F b → b < base) (hb : base ≤ w.heap.size) (ho : OV w base F s xs) (hv : Vals w F ys) (hf : (xs.length + ys.length) * 104 ≤ 140737488355328)
    (hown : w'.ownsRow base 56 7 (.slice s'.a (xs.length + ys.length) s'.c) (xs.length + ys.length) (flatE xs ++ flatE ys)) (hwr : Wr w w' s.row) : OV w' base F s' (xs ++ ys) := by
  have hag : Agree F w w' := hwr.agree (fun i hi => Nat.lt_of_lt_of_le (hF i hi) hb) (fun k hk hFk => by have := (own_row ho.own hk).1; have := hF k hFk; omega)
  refine ⟨by rw [List.length_append, flatE_app]; exact hown, fun x hx => ?_, by rw [List.length_append]; exact hf⟩
  rcases List.mem_append.1 hx with hx | hx
  · exact ⟨(ho.vals x hx).1.agree hag, (ho.vals x hx).2⟩
  · exact ⟨(hv x hx).1.agree hag, (hv x hx).2⟩
theorem OV.agree {w w' : World} {base : Nat} {F G : Nat → Prop} {s : Sl} {xs : List LE} (ho : OV w base F s xs) (ha : Agree G w w') (hF : ∀ b, F b → G b) (hr : ∀ b, s.row = some b → G b) : OV w' base F s xs :=
  ⟨own_agree ho.own ha hr, ho.vals.agree' (ha.mono hF), ho.few⟩
theorem OV.ext {w w' : World} {base : Nat} {F : Nat → Prop} {s : Sl} {xs : List LE} (ho : OV w base F s xs) (hx : Ext w w') (hF : ∀ b, F b → b < w.heap.size) : OV w' base F s xs :=
  ho.agree (hx.agree fun b (h : Lt w.heap.size b) => h) hF (fun b hb => (own_row ho.own hb).2)
theorem OV.es {w : World} {base : Nat} {F : Nat → Prop} {s : Sl} {xs : List LE} (ho : OV w base F s xs) (hF : ∀ b, F b → b < w.heap.size) : ES w (Lt w.heap.size) s xs :=
  ⟨(Rd.of_own ho.own).mono fun i hi => hi.2, fun x hx => ⟨(ho.vals x hx).1.mono hF, (ho.vals x hx).2⟩, ho.few⟩
end Go.Proofs.Ytpapoalgocmlaaa
namespace Go.Proofs.Ytpapoalgocmlaaa
open Go.RowKit
set_option linter.unusedVariables false
set_option linter.unusedSimpArgs false
end Go.Proofs.Ytpapoalgocmlaaa
namespace Go.Proofs.Ytpapoalgocmlaaa
open Go.RowKit
set_option linter.unusedVariables false
set_option linter.unusedSimpArgs false
end Go.Proofs.Ytpapoalgocmlaaa
namespace Go.Proofs.Ytpapoalgocmlaaa
open Go.RowKit
set_option linter.unusedVariables false
set_option linter.unusedSimpArgs false
theorem PutR.mono {A B : Nat} (hAB : A ≤ B) {k : ByteArray} {v : Val} {T T' : RT} (h : PutR B k v T T') : PutR A k v T T' := by
  cases h with
  | one hw => exact .one (hw.mono hAB)
  | two hw hc hb => exact .two (hw.mono hAB) hc (Nat.le_trans hAB hb)
def StepR (B : Nat) (kd : Int) (k : ByteArray) (v : Val) (T T' : RT) : Prop :=
  (kd = 1 ∧ PutR B k v T T') ∨ (kd = 2 ∧ DelT B k T T') ∨ (kd ≠ 1 ∧ kd ≠ 2 ∧ T' = T)
def stepE (kd : Int) (k : ByteArray) (v : Val) (es : List Ent) : List Ent := if kd = 1 then insE es k v else if kd = 2 then delE es k else es
theorem StepR.ents {B : Nat} {kd : Int} {k : ByteArray} {v : Val} {T T' : RT} (h : StepR B kd k v T T') (ok : OkR T) : entsT T' = stepE kd k v (entsT T) := by
  rcases h with ⟨rfl, h⟩ | ⟨rfl, h⟩ | ⟨h1, h2, rfl⟩
  · simp [stepE, h.ents ok]
  · simp [stepE, h.ents ok]
  · simp [stepE, h1, h2]
theorem StepR.ok {B : Nat} {kd : Int} {k : ByteArray} {v : Val} {T T' : RT} (h : StepR B kd k v T T') (ok : OkR T) : OkR T' := by
  rcases h with ⟨rfl, h⟩ | ⟨rfl, h⟩ | ⟨h1, h2, rfl⟩
  · exact h.ok ok
  · exact h.ok ok
  · exact ok
theorem MapAt.wide {H : Nat → Prop} {w : World} {M : Nat} {es : List Ent} (h : MapAt H w M es) (N : Nat) : MapAt (fun b => H b ∨ (w.heap.size ≤ b ∧ b < N)) w M es :=
  h.more (fun b hb => .inl hb) fun b hb hg => hg.elim id fun hh => by omega
section
variable {H : Nat → Prop} {w : World} {M : Nat} {T : RT} {a : LA}
theorem NH.st {H : Nat → Prop} {w w' : World} {M : Nat} (h : St (fun b => b = M) w w') (hm : H M) {b : Nat} (hb : NH H w b) : NH H w' b := ⟨Nat.lt_of_lt_of_le hb.1 h.size, hb.2⟩
theorem NH.agree {H : Nat → Prop} {w w' : World} {M : Nat} (h : St (fun b => b = M) w w') (hm : H M) : Agree (NH H w) w w' := fun b hb => h.block b hb.1 fun e => hb.2 (e ▸ hm)
theorem DelT.none {B : Nat} {k : ByteArray} {T T' : RT} (hd : DelT B k T T') (hg : (getE (entsT T) k).isSome = false) : T' = T := by
  cases hd with
  | no h => rfl
  | same h1 => rw [show getE (entsT _) k = _ from rfl] at hg; rw [getE_entsT] at hg; rw [h1] at hg; cases hg
  | gone h1 => rw [getE_entsT] at hg; rw [h1] at hg; cases hg
  | down h1 => rw [getE_entsT] at hg; rw [h1] at hg; cases hg
end
end Go.Proofs.Ytpapoalgocmlaaa
namespace Go.Proofs.Ytpapoalgocmlaaa
open Go.RowKit
set_option linter.unusedVariables false
set_option linter.unusedSimpArgs false
end Go.Proofs.Ytpapoalgocmlaaa
namespace Go.Proofs.Ytpapoalgocmlaaa
section
variable {P : Program} {ops : Array Oper} {Q : Exit → Act → World → Prop} {md : Region.Mode} {S : World → Prop}
end
end Go.Proofs.Ytpapoalgocmlaaa
namespace Go.Proofs.Ytpapoalgocmlaaa
open Go.RowKit
set_option linter.unusedVariables false
set_option linter.unusedSimpArgs false
structure PlayI (H : Nat → Prop) (M : Nat) (T : RT) (W : World) : Prop where
  map : MapAt H W M (entsT T)
  tree : IsT W (NH H W) T
  ok : OkR T
abbrev Wd (H : Nat → Prop) (lo hi : Nat) : Nat → Prop := fun b => H b ∨ (lo ≤ b ∧ b < hi)
theorem PlayI.st {H G : Nat → Prop} {M : Nat} {T : RT} {w w' : World} (h : PlayI H M T w) (k : St G w w') (hG : ∀ b, G b → H b) (hM : ¬ G M) : PlayI H M T w' :=
  ⟨h.map.st k hG hM, (h.tree.agree fun b hb => k.block b hb.1 fun hh => hb.2 (hG b hh)).mono fun i hi => ⟨Nat.lt_of_lt_of_le hi.1 k.size, hi.2⟩, h.ok⟩
theorem PlayI.ext {H : Nat → Prop} {M : Nat} {T : RT} {w w' : World} (h : PlayI H M T w) (k : Ext w w') : PlayI H M T w' := h.st (k.st fun _ => False) (fun _ hb => hb.elim) (fun hb => hb)
theorem PlayI.wide {H : Nat → Prop} {M : Nat} {T : RT} {w : World} (h : PlayI H M T w) (N : Nat) : PlayI (Wd H w.heap.size N) M T w :=
  ⟨h.map.wide N, h.tree.mono fun i hi => ⟨hi.1, fun hh => hh.elim hi.2 fun hh => by have := hi.1; omega⟩, h.ok⟩
theorem PlayI.nil {H : Nat → Prop} {w : World} {M : Nat} (hm : H M) (hb : Blk w M 82 #[.slice none 0 0]) : PlayI H M none w :=
  ⟨⟨hm, Sl.none, [], hb, ES.nil _ _, rfl⟩, trivial, trivial⟩
end Go.Proofs.Ytpapoalgocmlaaa
namespace Go.Proofs.Ytpapoalgocmlaaa
open Go.RowKit Go.Shelf
set_option linter.unusedVariables false
set_option linter.unusedSimpArgs false
attribute [local go_sem] Oper.semAt_some
theorem newest_log {w : World} {L R keep f : Nat} {xs : List Value} (h : LogAt w L R keep f xs) (h0 : 1 ≤ xs.length) : Calls Try.prog 32 #[logV L] w fun e w' => e = .returned (.tuple #[.int .u64 (f + xs.length - 1 : Nat), .bool true]) ∧ w = w' := by
  obtain ⟨ring, hl, -⟩ := h
  have hp := hl.pos
  refine (newest_any hl).mono ?_
  rintro e w' ⟨rfl, rfl⟩
  refine ⟨?_, rfl⟩
  rw [if_neg (by omega), decide_eq_true (by omega : 0 < min xs.length keep), lastV, if_neg (by omega)]
theorem len_log {w : World} {L R keep f : Nat} {xs : List Value} (h : LogAt w L R keep f xs) : Calls Try.prog 30 #[logV L] w fun e w' => e = .returned (.int .i64 (min xs.length keep : Nat)) ∧ w = w' := by
  obtain ⟨ring, hl, -⟩ := h
  exact len_any hl
def SameI (wr : World) (g : Nat) (pre : List (Told wr)) (W : World) : Prop := (W.cell? ⟨wr.heap.size, 0, none⟩ = some (.int .i64 ((g : Int) + (pre.length : Int))) ∧ W.frozen? ⟨wr.heap.size, 0, none⟩ = false) ∧ Below wr.heap.size wr W
def SameX (wr : World) (o : Nat) (r : Nat → Option Addr) (c : Code) (pre : List (Told wr)) (W : World) : Prop := c = .ret ∧ ∃ (pre' : List (Told wr)) (x : Told wr), pre = pre' ++ [x] ∧ x.1 ≠ (o + pre'.length, r pre'.length)
theorem SameI.own {wr : World} {g B : Nat} (hB : wr.heap.size ≤ B) : OwnFrom B (SameI wr g) :=
  OwnFrom.and (Own.from (fun s A C row hs hg hr => ⟨cell_kept hs.1 hg hr, (frozen_kept hs.1 hg hr).trans hs.2⟩) _) (ownFrom_below (Nat.le_refl _) hB)
set_option maxRecDepth 100000 in
set_option maxHeartbeats 4000000 in
theorem same_some {w : World} {L R keep f P T a b c d : Nat} {ns : List Nat} {sv sn : Sl} (hl : LogAt w L R keep f ((psOf a b c d ns).map .pointer)) (hr : RefL w P keep f ns sv sn) (hT : Blk w T 30 (rowT a b c d).toArray)
    (hn : ∀ k ∈ ns, k < 5) (hle : ∀ q ∈ psOf a b c d ns, Leads w q) (h0 : 1 ≤ ns.length) :
    Calls Try.prog 46 #[logV L, .pointer (some ⟨P, 0, none⟩), .slice (some ⟨T, 0, none⟩) 5 5] w fun e w' => e = .returned (.bool true) ∧ Below w.heap.size w w' := by
  obtain ⟨m, hm⟩ : ∃ m, ns.length = m := ⟨_, rfl⟩
  have hpl : ((psOf a b c d ns).map Value.pointer).length = m := by simp [psOf, hm]
  have hk1 := hr.keep1
  have hsm := hr.small
  have hfew := hr.few
  obtain ⟨g, hg⟩ : ∃ g, m - min m keep = g := ⟨_, rfl⟩
  have hfi : ∀ W, Ext w W → Calls Try.prog 100 #[.pointer (some ⟨P, 0, none⟩)] W fun e w' => e = .returned (.int .i64 g) ∧ Ext W w' := fun W hW => by
    have := first19e (hr.ext hW)
    rw [hm, hg] at this
    exact this
  obtain ⟨y1, hy1⟩ : ∃ y, f + g = y := ⟨_, rfl⟩
  obtain ⟨y2, hy2⟩ : ∃ y, f + m - 1 = y := ⟨_, rfl⟩
  have hol : ∀ W, Ext w W → Calls Try.prog 43 #[logV L] W fun e w' => e = .returned (.tuple #[.int .u64 (y1 : Nat), .bool true]) ∧ Ext W w' := fun W hW => by
    have := oldest_log (hl.ext hW) (by rw [hpl]; omega)
    rw [hpl, hg, hy1] at this
    exact this
  have hne : ∀ W, Ext w W → Calls Try.prog 32 #[logV L] W fun e w' => e = .returned (.tuple #[.int .u64 (y2 : Nat), .bool true]) ∧ W = w' := fun W hW => by
    have := newest_log (hl.ext hW) (by rw [hpl]; omega)
    rw [hpl, hy2] at this
    exact this
  have hln : ∀ W, Ext w W → Calls Try.prog 30 #[logV L] W fun e w' => e = .returned (.int .i64 ((m : Int) - (g : Int))) ∧ W = w' := fun W hW => by
    have := len_log (hl.ext hW)
    rw [hpl, show ((min m keep : Nat) : Int) = (m : Int) - (g : Int) from by omega] at this
    exact this
  rw [hm] at hsm hfew
  have HFI := Lib.hid hfi
  have HOL := Lib.hid hol
  have HNE := Lib.hid hne
  have HLN := Lib.hid hln
  have HLW := Lib.hid hl
  have HRW := Lib.hid hr
  have HTW := Lib.hid hT
  have HN := Lib.hid hn
  have HLE := Lib.hid hle
  have HM := Lib.hid hm
  have HG := Lib.hid hg
  have hgm : g < m := by omega
  have HY1 := Lib.hid hy1
  have HY2 := Lib.hid hy2
  clear hy1 hy2
  clear hfi hol hne hln hl hr hT hn hle hpl hm hg
  refine (callsIn_wide (n := 6)).1 ?_
  refine callsIn_of_wp_marks Try.func46 rfl trivial ?_ rfl
  simp only [Try.ntmps46, List.size_toArray, List.length_cons, List.length_nil, Nat.reduceAdd, Nat.reduceSub, Array.replicate_succ, Array.replicate_zero, List.push_toArray, List.append_toArray, List.nil_append, List.cons_append]
  gi_wp2_with fail
  have hx0 : Ext w (((w.alloc (.cells #[.pointer (some ⟨P, 0, none⟩)] 63)).alloc (.cells #[.slice (some ⟨T, 0, none⟩) 5 5] 31)).alloc (.cells #[.bool false] 4)) := (((Ext.refl w).alloc _ _).alloc _ _).alloc _ _
  obtain ⟨b1, b2, b3⟩ : Blk (((w.alloc (.cells #[.pointer (some ⟨P, 0, none⟩)] 63)).alloc (.cells #[.slice (some ⟨T, 0, none⟩) 5 5] 31)).alloc (.cells #[.bool false] 4)) w.heap.size 63 #[.pointer (some ⟨P, 0, none⟩)] ∧
      Blk (((w.alloc (.cells #[.pointer (some ⟨P, 0, none⟩)] 63)).alloc (.cells #[.slice (some ⟨T, 0, none⟩) 5 5] 31)).alloc (.cells #[.bool false] 4)) (w.heap.size + 1) 31 #[.slice (some ⟨T, 0, none⟩) 5 5] ∧
      Blk (((w.alloc (.cells #[.pointer (some ⟨P, 0, none⟩)] 63)).alloc (.cells #[.slice (some ⟨T, 0, none⟩) 5 5] 31)).alloc (.cells #[.bool false] 4)) (w.heap.size + 1 + 1) 4 #[.bool false] := by
    refine ⟨((Blk.new w _ _).alloc _).alloc _, ?_, ?_⟩
    · have := (Blk.new (w.alloc (.cells #[.pointer (some ⟨P, 0, none⟩)] 63)) 31 #[.slice (some ⟨T, 0, none⟩) 5 5]).alloc (.cells #[.bool false] 4)
      rwa [World.size_alloc] at this
    · have := Blk.new ((w.alloc (.cells #[.pointer (some ⟨P, 0, none⟩)] 63)).alloc (.cells #[.slice (some ⟨T, 0, none⟩) 5 5] 31)) 4 #[.bool false]
      rwa [World.size_alloc, World.size_alloc] at this
  generalize ((w.alloc (.cells #[.pointer (some ⟨P, 0, none⟩)] 63)).alloc (.cells #[.slice (some ⟨T, 0, none⟩) 5 5] 31)).alloc (.cells #[.bool false] 4) = w0 at *
  have HX0 := Lib.hid hx0
  have HB1 := Lib.hid b1
  have HB2 := Lib.hid b2
  have HB3 := Lib.hid b3
  clear hx0 b1 b2 b3
  refine ⟨trivial, ?_⟩
  refine (callsIn_wide.2 (HFI.out w0 HX0.out)).mono ?_
  rintro e w1 ⟨rfl, hx1⟩
  have HX1 := Lib.hid (HX0.out.trans hx1)
  have HC1 := Lib.hid (HB1.out.ext hx1)
  have HC2 := Lib.hid (HB2.out.ext hx1)
  have HC3 := Lib.hid (HB3.out.ext hx1)
  clear hx1 HX0 HB1 HB2 HB3
  gi_wp2_with fail
  refine ⟨trivial, ?_⟩
  refine (callsIn_wide.2 (HOL.out w1 HX1.out)).mono ?_
  rintro e w2 ⟨rfl, hx2⟩
  have HX2 := Lib.hid (HX1.out.trans hx2)
  have HD1 := Lib.hid (HC1.out.ext hx2)
  have HD2 := Lib.hid (HC2.out.ext hx2)
  have HD3 := Lib.hid (HC3.out.ext hx2)
  clear hx2 HX1 HC1 HC2 HC3
  gi_wp2_with fail
  refine ⟨trivial, ?_⟩
  refine (callsIn_wide.2 (HNE.out w2 HX2.out)).mono ?_
  rintro e w3 ⟨rfl, rfl⟩
  gi_wp2_with fail
  have hr2 := HRW.out.ext HX2.out
  have z0 := HD1.out.cell 0
  have l0 := HD1.out.lt
  obtain ⟨-, p1, p2⟩ := hr2.blk.c3
  rw [HM.out] at p1 p2
  obtain ⟨bv, ov, hs1, -, hc1⟩ := id hr2.rv
  rw [HM.out] at hs1 hc1
  obtain ⟨ha1, -, -⟩ := hs1.eq (by omega)
  rw [ha1] at p1
  have v1 := hc1 g _ (verV_at hgm)
  obtain ⟨l, hl⟩ : ∃ l, m - 1 = l := ⟨_, rfl⟩
  have v2 := hc1 l _ (verV_at (by omega))
  rw [HY1.out] at v1
  rw [show f + l = y2 from by have := HY2.out; omega] at v2
  have hwl : IntKind.i64.wrap ((m : Int) - 1) = (l : Int) := by rw [IntKind.wrap_i64]; omega
  have hgm' : (g : Int) < (m : Int) := by omega
  have hlm' : (l : Int) < (m : Int) := by omega
  have hw1 : IntKind.i64.wrap ((m : Int) - (g : Int)) = (m : Int) - (g : Int) := by rw [IntKind.wrap_i64]; omega
  have hm0 : decide (0 < (m : Int)) = true := decide_eq_true (by omega)
  have hm0' : 0 < (m : Int) := by omega
  have hm1 : 0 < m := by omega
  have hm2 : decide (0 < m) = true := decide_eq_true hm1
  have hlen : ∀ W, (∃ q, W = w2.drewN q) → Calls Try.prog 30 #[logV L] W fun e w' => e = .returned (.int .i64 ((m : Int) - (g : Int))) ∧ W = w' := fun W hW => by
    obtain ⟨q, rfl⟩ := hW
    exact HLN.out _ (HX2.out.drewN q)
  have HLEN := Lib.hid hlen
  have HL := Lib.hid hl
  clear hr2 hs1 hc1 ha1 hl hlen
  refine wpIn_wide.2 ?_
  go_quiet ((go_at_call 30; refine (HLEN.out _ ⟨_, rfl⟩).mono ?_; rintro e w' ⟨rfl, rfl⟩; first | exact ⟨rfl, _, rfl⟩ | exact ⟨rfl, 0, rfl⟩))
  have HX4 := Lib.hid (HX2.out.drewN nq)
  have z0' : (w2.drewN nq).cell? ⟨w.heap.size, 0, none⟩ = some (.pointer (some ⟨P, 0, none⟩)) := z0
  have p1' : (w2.drewN nq).cell? ⟨P, 1, none⟩ = some (.slice (some ⟨bv, ov, none⟩) m sv.c) := p1
  have v1' : (w2.drewN nq).cell? ⟨bv, ov + g, none⟩ = some (.int .u64 y1) := v1
  have v2' : (w2.drewN nq).cell? ⟨bv, ov + l, none⟩ = some (.int .u64 y2) := v2
  have HE1 := Lib.hid (show Blk (w2.drewN nq) _ _ _ from HD1.out)
  have HE2 := Lib.hid (show Blk (w2.drewN nq) _ _ _ from HD2.out)
  have HE3 := Lib.hid (show Blk (w2.drewN nq) _ _ _ from HD3.out)
  clear z0 p1 p2 v1 v2 HD1 HD2 HD3 HX2 l0
  generalize w2.drewN nq = W4 at *
  gi_wp2_with fail
  refine wpIn_wide.2 ?_
  go_quiet (fail)
  gi_wp2_with fail
  have HX5 := Lib.hid (HX4.out.drewN nq)
  have HG1 := Lib.hid (show Blk (W4.drewN nq) _ _ _ from HE1.out)
  have HG2 := Lib.hid (show Blk (W4.drewN nq) _ _ _ from HE2.out)
  have HG3 := Lib.hid (show Blk (W4.drewN nq) _ _ _ from HE3.out)
  clear HE1 HE2 HE3 HX4 z0' p1' v1' v2'
  generalize W4.drewN nq = w4 at *
  refine ⟨trivial, ?_⟩
  refine (callsIn_wide.2 (all_value w4 _)).mono ?_
  rintro e w5 ⟨rfl, rfl⟩
  have hx6 : Ext w4 (w4.alloc (.cells #[logV L] 23)) := (Ext.refl w4).alloc _ _
  have HBB := Lib.hid (Blk.new w4 23 #[logV L])
  have HX6 := Lib.hid (HX5.out.trans hx6)
  have HI1 := Lib.hid (HG1.out.ext hx6)
  have HI2 := Lib.hid (HG2.out.ext hx6)
  have HI3 := Lib.hid (HG3.out.ext hx6)
  generalize w4.alloc (.cells #[logV L] 23) = w5 at *
  clear hx6 HG1 HG2 HG3 HX5
  have hnf := fun W => eql_func_nil (P := Try.prog) W (.func 96) #[] #[.pointer (some ⟨w4.heap.size, 0, none⟩)] Try.underlying59
  have HST := Lib.hid (all_log (HLW.out.ext HX6.out) (fun q hq => (HLE.out q hq).ext HX6.out) w4.heap.size (HBB.out.cell 0) HBB.out.lt (6 - 1) (by decide))
  have hB0 : Below w5.heap.size w5 (w5.alloc (.cells #[.int .i64 g] 3)) := (Below.refl _ _).alloc (Nat.le_refl _) _
  have hS := Blk.new w5 3 #[.int .i64 g]
  have HS := Lib.hid hS
  have HB0 := Lib.hid hB0
  have H00 := Lib.hid (show SameI w5 g [] (w5.alloc (.cells #[.int .i64 g] 3)) from ⟨⟨by rw [hS.cell 0]; simp, hS.frozen 0⟩, hB0⟩)
  clear hB0 hS
  gi_wp2_with fail
  refine wpIn_range_boxed rfl (by decide) (gf := 96) (lb := #[.pointer (some ⟨w4.heap.size, 0, none⟩)]) rfl trivial (enters_of Try.func96 (by kernel_rfl) rfl)
    HST.out belowK_t (belowK_b (by simp)) HB0.out (fun _ => rfl)
    (SameI w5 g) (SameX w5 (f + g) (fun i => rootP a b c d (ns.getD (g + i) 0))) (SameI.own (by simp)) (fun c s A C row hs hg hr => hs) H00.out
    30 (fun p => .pointer p.1.2) (fun tm p Bx => (((tm.setIfInBounds 99 (.int .u64 p.1.1)).setIfInBounds 100 (.agg #[.pointer p.1.2])).setIfInBounds 14 (.int .u64 p.1.1)).setIfInBounds 15 (.pointer (some ⟨Bx, 0, none⟩)))
    ?assign ?body ?done ?stop
  case assign =>
    rintro l pre p W K hI hK
    have HI := Lib.hid hI
    have HK := Lib.hid hK
    have hs5 := hI.2.size
    have HAL := Lib.hid (show Ext W (W.alloc (.cells #[.pointer p.1.2] 30)) from (Ext.refl W).alloc _ _)
    have HBN := Lib.hid (Blk.new W 30 #[.pointer p.1.2])
    have hlS : w5.heap.size < W.heap.size := by
      have hc := hI.1.1
      rcases Nat.lt_or_ge w5.heap.size W.heap.size with h | h
      · exact h
      · rw [World.cell?, Array.getElem?_eq_none h] at hc; cases hc
    clear hI hK
    gi_wp2_with fail
    refine HK.out W.heap.size _ (by simp; omega) (HAL.out.others.from _) (HAL.out.below.mono (by omega)) ⟨⟨(HAL.out.cell (by omega)).trans HI.out.1.1, (HAL.out.frozen (by omega)).trans HI.out.1.2⟩, HI.out.2.trans (HAL.out.below.mono (by omega))⟩ HBN.out
  case body =>
    rintro l pre p Bx W hBx hbx hI hlen
    simp only [List.setIfInBounds_toArray, List.set_cons_zero, List.set_cons_succ]
    obtain ⟨⟨hci, hfi⟩, hbel⟩ := hI
    obtain ⟨⟨xv, xq⟩, hxb, hxl⟩ := p
    dsimp only at hbx hxb hxl ⊢
    have hz5 := hbel.size
    have hpl2 : (psOf a b c d ns).length = m := by simp [psOf, HM.out]
    rw [hpl2] at hlen
    have hkm : g + pre.length < m := by have := HG.out; omega
    obtain ⟨k, hk⟩ : ∃ k, g + pre.length = k := ⟨_, rfl⟩
    rw [show (g : Int) + (pre.length : Int) = (k : Int) by omega] at hci
    rw [hk] at hkm
    have hr5 := (HRW.out.ext HX6.out).below hbel
    obtain ⟨-, p1, p2⟩ := hr5.blk.c3
    rw [HM.out] at p1 p2
    obtain ⟨bv, ov, hs1, -, hc1⟩ := id hr5.rv
    obtain ⟨bn, on, hs2, -, hc2⟩ := id hr5.rn
    rw [HM.out] at hs1 hs2 hc1
    obtain ⟨ha1, -, -⟩ := hs1.eq (by omega)
    obtain ⟨ha2, -, -⟩ := hs2.eq (by omega)
    have lP := hr5.blk.lt
    have lv : bv < W.heap.size := (hs1.fits (by omega)).1
    have lnn : bn < W.heap.size := (hs2.fits (by omega)).1
    have v1 := hc1 k _ (verV_at hkm)
    obtain ⟨nk, hnk⟩ : ∃ n, ns.getD k 0 = n := ⟨_, rfl⟩
    have hnk5 : nk < 5 := by
      rw [← hnk, List.getD_eq_getElem?_getD, List.getElem?_eq_getElem (by rw [HM.out]; exact hkm)]; exact HN.out _ (List.getElem_mem _)
    have n1 := hc2 k _ (numV_at (by rw [HM.out]; exact hkm))
    rw [hnk] at n1
    rw [ha1] at p1
    rw [ha2] at p2
    have hag5 : Agree (Lt w5.heap.size) w5 W := Agree.of_below hbel fun _ h => h
    have hT5 : Blk W T 30 (rowT a b c d).toArray := (HTW.out.ext HX6.out).agree hag5 (HTW.out.ext HX6.out).lt
    obtain ⟨rq, hrq⟩ : ∃ r, rootP a b c d nk = r := ⟨_, rfl⟩
    have t5 : W.cell? ⟨T, nk, none⟩ = some (.pointer rq) := by
      rw [hT5.cell]; simpa [hrq] using rootP_row a b c d nk hnk5
    have lT := hT5.lt
    have z4 : W.cell? ⟨w.heap.size, 0, none⟩ = some (.pointer (some ⟨P, 0, none⟩)) := (HI1.out.agree hag5 HI1.out.lt).cell 0
    have z5 : W.cell? ⟨w.heap.size + 1, 0, none⟩ = some (.slice (some ⟨T, 0, none⟩) 5 5) := (HI2.out.agree hag5 HI2.out.lt).cell 0
    have z6 := HI3.out.agree hag5 HI3.out.lt
    have lz4 := (HI1.out.agree hag5 HI1.out.lt).lt
    have lz5 := (HI2.out.agree hag5 HI2.out.lt).lt
    have lz6 := z6.lt
    have cB : W.cell? ⟨Bx, 0, none⟩ = some (.pointer xq) := hbx.cell 0
    have lB := hbx.lt
    have lw5 : w5.heap.size < W.heap.size := by rw [World.size_alloc] at hBx; omega
    obtain ⟨y, hy⟩ : ∃ y, f + k = y := ⟨_, rfl⟩
    rw [hy] at v1
    have hlq : ∀ q, Leads w5 q → Leads W q := fun q h a ha => by
      obtain ⟨cc, tt, hh⟩ := h a ha
      exact ⟨cc, tt, (hbel.block _ (Array.getElem?_eq_some_iff.1 hh).1).trans hh⟩
    have hlr : Leads W rq := hlq rq (by
      rw [← hrq, ← hnk, ← psOf_at (a := a) (b := b) (c := c) (d := d) (ns := ns) (by rw [HM.out]; exact hkm)]
      refine (HLE.out _ ?_).ext HX6.out
      rw [List.getD_eq_getElem?_getD, List.getElem?_eq_getElem (by rw [hpl2]; exact hkm)]
      exact List.getElem_mem _)
    have HIS := Lib.hid (fun (W' : World) (hW : Ext W W') => is_any W' xq rq ((hlq xq hxl).ext hW) (hlr.ext hW))
    have HSS := Lib.hid (show ∀ W', Ext W W' → W'.cell? ⟨w5.heap.size, 0, none⟩ = some (.int .i64 k) ∧ W'.cell? ⟨w.heap.size, 0, none⟩ = some (.pointer (some ⟨P, 0, none⟩)) ∧ W'.cell? ⟨w.heap.size + 1, 0, none⟩ = some (.slice (some ⟨T, 0, none⟩) 5 5) ∧ W'.cell? ⟨P, 1, none⟩ = some (.slice (some ⟨bv, ov, none⟩) m sv.c) ∧ W'.cell? ⟨P, 2, none⟩ = some (.slice (some ⟨bn, on, none⟩) m sn.c) ∧ W'.cell? ⟨bv, ov + k, none⟩ = some (.int .u64 (y : Nat)) ∧ W'.cell? ⟨bn, on + k, none⟩ = some (.int .i64 nk) ∧ W'.cell? ⟨T, nk, none⟩ = some (.pointer rq) ∧ W'.cell? ⟨Bx, 0, none⟩ = some (.pointer xq) from
      fun W' hW => ⟨(hW.cell lw5).trans hci, (hW.cell lz4).trans z4, (hW.cell lz5).trans z5, (hW.cell lP).trans p1, (hW.cell lP).trans p2, (hW.cell lv).trans v1, (hW.cell lnn).trans n1, (hW.cell lT).trans t5, (hW.cell lB).trans cB⟩)
    have b1 : (k : Int) < (m : Int) := by omega
    have b1' : decide ((m : Int) ≤ (k : Int)) = false := decide_eq_false (by omega)
    have b1'' : decide (m ≤ k) = false := decide_eq_false (by omega)
    have b1n : k < m := hkm
    have b2 : (nk : Int) < 5 := by omega
    have b4 : decide ((k : Int) < 0) = false := decide_eq_false (by omega)
    have HK := Lib.hid hk
    have HNK := Lib.hid hnk
    have HRQ := Lib.hid hrq
    have HYK := Lib.hid hy
    have HBEL := Lib.hid hbel
    have HZ6 := Lib.hid z6
    have HCI := Lib.hid hci
    have HFI := Lib.hid hfi
    clear hk hnk hrq hy hbel z6 hfi hci hr5 hs1 hs2 hc1 hc2 ha1 ha2 p1 p2 v1 n1 t5 z4 z5 cB hT5 hag5 hlq hlr hlen hpl2
    gi_wp2_with fail
    by_cases hv : y = xv
    · have hvb : ((y : Int) != (xv : Int)) = false := by simp [hv]
      have hvb' : (y != xv) = false := by simp [hv]
      have HV := Lib.hid hv
      clear hv
      by_cases hq : xq = rq
      · have hqd : decide (xq = rq) = true := decide_eq_true hq
        have HQ := Lib.hid hq
        clear hq
        refine wpIn_region_roundE (f := 35) (enters_of Try.func35 (by kernel_rfl) rfl) (S := (fun w' => Ext W w')) (by kernel_rfl) (by rintro ⟨a, w, h⟩; exact h) (by kernel_rfl) (((Ext.refl W).drew)) (fun hHeld => ?_)
        refine held_on (i := 0) (d := (some 101)) (v := ?_) rfl rfl (by kernel_rfl) (by kernel_rfl) (by kernel_rfl) (fun _ _ _ h => h) (by rfl) hHeld ?_ ?_
        rotate_left
        focus (intro w hSw; have hSc := HSS.out w hSw; clear hSw; go_simp; first | done | with_reducible rfl)
        try simp only [Act.put, List.setIfInBounds_toArray, List.set_cons_zero, List.set_cons_succ]
        refine held_on (i := 1) (d := (some 102)) (v := ?_) rfl rfl (by kernel_rfl) (by kernel_rfl) (by kernel_rfl) (fun _ _ _ h => h) (by rfl) hHeld ?_ ?_
        rotate_left
        focus (intro w hSw; have hSc := HSS.out w hSw; clear hSw; go_simp; first | done | with_reducible rfl)
        try simp only [Act.put, List.setIfInBounds_toArray, List.set_cons_zero, List.set_cons_succ]
        refine held_on (i := 2) (d := (some 103)) (v := ?_) rfl rfl (by kernel_rfl) (by kernel_rfl) (by kernel_rfl) (fun _ _ _ h => h) (by rfl) hHeld ?_ ?_
        rotate_left
        focus (intro w hSw; have hSc := HSS.out w hSw; clear hSw; go_simp; first | done | with_reducible rfl)
        try simp only [Act.put, List.setIfInBounds_toArray, List.set_cons_zero, List.set_cons_succ]
        refine held_on (i := 3) (d := (some 104)) (v := ?_) rfl rfl (by kernel_rfl) (by kernel_rfl) (by kernel_rfl) (fun _ _ _ h => h) (by rfl) hHeld ?_ ?_
        rotate_left
        focus (intro w hSw; have hSc := HSS.out w hSw; clear hSw; go_simp; first | done | with_reducible rfl)
        try simp only [Act.put, List.setIfInBounds_toArray, List.set_cons_zero, List.set_cons_succ]
        refine held_on (i := 4) (d := (some 105)) (v := ?_) rfl rfl (by kernel_rfl) (by kernel_rfl) (by kernel_rfl) (fun _ _ _ h => h) (by rfl) hHeld ?_ ?_
        rotate_left
        focus (intro w hSw; have hSc := HSS.out w hSw; clear hSw; go_simp; first | done | with_reducible rfl)
        try simp only [Act.put, List.setIfInBounds_toArray, List.set_cons_zero, List.set_cons_succ]
        refine held_on (i := 5) (d := (some 106)) (v := ?_) rfl rfl (by kernel_rfl) (by kernel_rfl) (by kernel_rfl) (fun _ _ _ h => h) (by rfl) hHeld ?_ ?_
        rotate_left
        focus (intro w hSw; have hSc := HSS.out w hSw; clear hSw; go_simp; first | done | with_reducible rfl)
        try simp only [Act.put, List.setIfInBounds_toArray, List.set_cons_zero, List.set_cons_succ]
        refine held_on (i := 6) (d := (some 107)) (v := ?_) rfl rfl (by kernel_rfl) (by kernel_rfl) (by kernel_rfl) (fun _ _ _ h => h) (by rfl) hHeld ?_ ?_
        rotate_left
        focus (intro w hSw; have hSc := HSS.out w hSw; clear hSw; go_simp; first | done | with_reducible rfl)
        try simp only [Act.put, List.setIfInBounds_toArray, List.set_cons_zero, List.set_cons_succ]
        refine held_on (i := 7) (d := (some 108)) (v := ?_) rfl rfl (by kernel_rfl) (by kernel_rfl) (by kernel_rfl) (fun _ _ _ h => h) (by rfl) hHeld ?_ ?_
        rotate_left
        focus (intro w hSw; have hSc := HSS.out w hSw; clear hSw; go_simp; first | done | with_reducible rfl)
        try simp only [Act.put, List.setIfInBounds_toArray, List.set_cons_zero, List.set_cons_succ]
        refine held_on (i := 8) (d := (some 109)) (v := ?_) rfl rfl (by kernel_rfl) (by kernel_rfl) (by kernel_rfl) (fun _ _ _ h => h) (by rfl) hHeld ?_ ?_
        rotate_left
        focus (intro w hSw; have hSc := HSS.out w hSw; clear hSw; go_simp; first | done | with_reducible rfl)
        try simp only [Act.put, List.setIfInBounds_toArray, List.set_cons_zero, List.set_cons_succ]
        refine held_on (i := 9) (d := (some 110)) (v := ?_) rfl rfl (by kernel_rfl) (by kernel_rfl) (by kernel_rfl) (fun _ _ _ h => h) (by rfl) hHeld ?_ ?_
        rotate_left
        focus (intro w hSw; have hSc := HSS.out w hSw; clear hSw; go_simp; first | done | with_reducible rfl)
        try simp only [Act.put, List.setIfInBounds_toArray, List.set_cons_zero, List.set_cons_succ]
        refine held_on (i := 10) (d := (some 111)) (v := ?_) rfl rfl (by kernel_rfl) (by kernel_rfl) (by kernel_rfl) (fun _ _ _ h => h) (by rfl) hHeld ?_ ?_
        rotate_left
        focus (intro w hSw; have hSc := HSS.out w hSw; clear hSw; go_simp; first | done | with_reducible rfl)
        try simp only [Act.put, List.setIfInBounds_toArray, List.set_cons_zero, List.set_cons_succ]
        refine held_on (i := 11) (d := (some 112)) (v := ?_) rfl rfl (by kernel_rfl) (by kernel_rfl) (by kernel_rfl) (fun _ _ _ h => h) (by rfl) hHeld ?_ ?_
        rotate_left
        focus (intro w hSw; have hSc := HSS.out w hSw; clear hSw; go_simp; first | done | with_reducible rfl)
        try simp only [Act.put, List.setIfInBounds_toArray, List.set_cons_zero, List.set_cons_succ]
        refine held_on (i := 12) (d := (some 113)) (v := ?_) rfl rfl (by kernel_rfl) (by kernel_rfl) (by kernel_rfl) (fun _ _ _ h => h) (by rfl) hHeld ?_ ?_
        rotate_left
        focus (intro w hSw; have hSc := HSS.out w hSw; clear hSw; go_simp; first | done | with_reducible rfl)
        try simp only [Act.put, List.setIfInBounds_toArray, List.set_cons_zero, List.set_cons_succ]
        refine held_on (i := 13) (d := (some 114)) (v := ?_) rfl rfl (by kernel_rfl) (by kernel_rfl) (by kernel_rfl) (fun _ _ _ h => h) (by rfl) hHeld ?_ ?_
        rotate_left
        focus (intro w hSw; have hSc := HSS.out w hSw; clear hSw; go_simp; first | done | with_reducible rfl)
        try simp only [Act.put, List.setIfInBounds_toArray, List.set_cons_zero, List.set_cons_succ]
        refine held_on (i := 14) (d := (some 115)) (v := ?_) rfl rfl (by kernel_rfl) (by kernel_rfl) (by kernel_rfl) (fun _ _ _ h => h) (by rfl) hHeld ?_ ?_
        rotate_left
        focus (intro w hSw; have hSc := HSS.out w hSw; clear hSw; go_simp; first | done | with_reducible rfl)
        try simp only [Act.put, List.setIfInBounds_toArray, List.set_cons_zero, List.set_cons_succ]
        refine held_on (i := 15) (d := (some 116)) (v := ?_) rfl rfl (by kernel_rfl) (by kernel_rfl) (by kernel_rfl) (fun _ _ _ h => h) (by rfl) hHeld ?_ ?_
        rotate_left
        focus (intro w hSw; have hSc := HSS.out w hSw; clear hSw; go_simp; first | done | with_reducible rfl)
        try simp only [Act.put, List.setIfInBounds_toArray, List.set_cons_zero, List.set_cons_succ]
        refine held_on (i := 16) (d := (some 117)) (v := ?_) rfl rfl (by kernel_rfl) (by kernel_rfl) (by kernel_rfl) (fun _ _ _ h => h) (by rfl) hHeld ?_ ?_
        rotate_left
        focus (intro w hSw; have hSc := HSS.out w hSw; clear hSw; go_simp; first | done | with_reducible rfl)
        try simp only [Act.put, List.setIfInBounds_toArray, List.set_cons_zero, List.set_cons_succ]
        refine held_on (i := 17) (d := (some 118)) (v := ?_) rfl rfl (by kernel_rfl) (by kernel_rfl) (by kernel_rfl) (fun _ _ _ h => h) (by rfl) hHeld ?_ ?_
        rotate_left
        focus (intro w hSw; have hSc := HSS.out w hSw; clear hSw; go_simp; first | done | with_reducible rfl)
        try simp only [Act.put, List.setIfInBounds_toArray, List.set_cons_zero, List.set_cons_succ]
        refine held_on (i := 18) (d := (some 119)) (v := ?_) rfl rfl (by kernel_rfl) (by kernel_rfl) (by kernel_rfl) (fun _ _ _ h => h) (by rfl) hHeld ?_ ?_
        rotate_left
        focus (intro w hSw; have hSc := HSS.out w hSw; clear hSw; go_simp; first | done | with_reducible rfl)
        try simp only [Act.put, List.setIfInBounds_toArray, List.set_cons_zero, List.set_cons_succ]
        refine held_on (i := 19) (d := (some 120)) (v := ?_) rfl rfl (by kernel_rfl) (by kernel_rfl) (by kernel_rfl) (fun _ _ _ h => h) (by rfl) hHeld ?_ ?_
        rotate_left
        focus (intro w hSw; have hSc := HSS.out w hSw; clear hSw; go_simp; first | done | with_reducible rfl)
        try simp only [Act.put, List.setIfInBounds_toArray, List.set_cons_zero, List.set_cons_succ]
        refine held_on (i := 20) (d := (some 121)) (v := ?_) rfl rfl (by kernel_rfl) (by kernel_rfl) (by kernel_rfl) (fun _ _ _ h => h) (by rfl) hHeld ?_ ?_
        rotate_left
        focus (intro w hSw; have hSc := HSS.out w hSw; clear hSw; go_simp; first | done | with_reducible rfl)
        try simp only [Act.put, List.setIfInBounds_toArray, List.set_cons_zero, List.set_cons_succ]
        refine held_on (i := 21) (d := (some 122)) (v := ?_) rfl rfl (by kernel_rfl) (by kernel_rfl) (by kernel_rfl) (fun _ _ _ h => h) (by rfl) hHeld ?_ ?_
        rotate_left
        focus (intro w hSw; have hSc := HSS.out w hSw; clear hSw; go_simp; first | done | with_reducible rfl)
        try simp only [Act.put, List.setIfInBounds_toArray, List.set_cons_zero, List.set_cons_succ]
        refine held_on (i := 22) (d := (some 123)) (v := ?_) rfl rfl (by kernel_rfl) (by kernel_rfl) (by kernel_rfl) (fun _ _ _ h => h) (by rfl) hHeld ?_ ?_
        rotate_left
        focus (intro w hSw; have hSc := HSS.out w hSw; clear hSw; go_simp; first | done | with_reducible rfl)
        try simp only [Act.put, List.setIfInBounds_toArray, List.set_cons_zero, List.set_cons_succ]
        refine held_on (i := 23) (d := (some 124)) (v := ?_) rfl rfl (by kernel_rfl) (by kernel_rfl) (by kernel_rfl) (fun _ _ _ h => h) (by rfl) hHeld ?_ ?_
        rotate_left
        focus (intro w hSw; have hSc := HSS.out w hSw; clear hSw; go_simp; first | done | with_reducible rfl)
        try simp only [Act.put, List.setIfInBounds_toArray, List.set_cons_zero, List.set_cons_succ]
        refine held_on (i := 24) (d := (some 125)) (v := ?_) rfl rfl (by kernel_rfl) (by kernel_rfl) (by kernel_rfl) (fun _ _ _ h => h) (by rfl) hHeld ?_ ?_
        rotate_left
        focus (intro w hSw; have hSc := HSS.out w hSw; clear hSw; go_simp; first | done | with_reducible rfl)
        try simp only [Act.put, List.setIfInBounds_toArray, List.set_cons_zero, List.set_cons_succ]
        refine held_on (i := 25) (d := (some 126)) (v := ?_) rfl rfl (by kernel_rfl) (by kernel_rfl) (by kernel_rfl) (fun _ _ _ h => h) (by rfl) hHeld ?_ ?_
        rotate_left
        focus (intro w hSw; have hSc := HSS.out w hSw; clear hSw; go_simp; first | done | with_reducible rfl)
        try simp only [Act.put, List.setIfInBounds_toArray, List.set_cons_zero, List.set_cons_succ]
        refine held_on (i := 26) (d := (some 127)) (v := ?_) rfl rfl (by kernel_rfl) (by kernel_rfl) (by kernel_rfl) (fun _ _ _ h => h) (by rfl) hHeld ?_ ?_
        rotate_left
        focus (intro w hSw; have hSc := HSS.out w hSw; clear hSw; go_simp; first | done | with_reducible rfl)
        try simp only [Act.put, List.setIfInBounds_toArray, List.set_cons_zero, List.set_cons_succ]
        refine held_on (i := 27) (d := (some 128)) (v := ?_) rfl rfl (by kernel_rfl) (by kernel_rfl) (by kernel_rfl) (fun _ _ _ h => h) (by rfl) hHeld ?_ ?_
        rotate_left
        focus (intro w hSw; have hSc := HSS.out w hSw; clear hSw; go_simp; first | done | with_reducible rfl)
        try simp only [Act.put, List.setIfInBounds_toArray, List.set_cons_zero, List.set_cons_succ]
        refine held_on (i := 28) (d := (some 129)) (v := ?_) rfl rfl (by kernel_rfl) (by kernel_rfl) (by kernel_rfl) (fun _ _ _ h => h) (by rfl) hHeld ?_ ?_
        rotate_left
        focus (intro w hSw; have hSc := HSS.out w hSw; clear hSw; go_simp; first | done | with_reducible rfl)
        try simp only [Act.put, List.setIfInBounds_toArray, List.set_cons_zero, List.set_cons_succ]
        refine held_on (i := 29) (d := (some 130)) (v := ?_) rfl rfl (by kernel_rfl) (by kernel_rfl) (by kernel_rfl) (fun _ _ _ h => h) (by rfl) hHeld ?_ ?_
        rotate_left
        focus (intro w hSw; have hSc := HSS.out w hSw; clear hSw; go_simp; first | done | with_reducible rfl)
        try simp only [Act.put, List.setIfInBounds_toArray, List.set_cons_zero, List.set_cons_succ]
        refine held_call (i := 30) (by kernel_rfl) rfl (by rfl) (fun K hK => ?_)
        go_simp
        (refine (HIS.out _ hHeld).mono ?_; rintro e w7 ⟨rfl, hx7⟩; rw [hqd])
        refine hK.out _ _ (hHeld.trans hx7) (fun hHeld => ?_)
        clear hK K
        try simp only [Act.put, List.setIfInBounds_toArray, List.set_cons_zero, List.set_cons_succ]
        refine held_on (i := 31) (d := (some 132)) (v := ?_) rfl rfl (by kernel_rfl) (by kernel_rfl) (by kernel_rfl) (fun _ _ _ h => h) (by rfl) hHeld ?_ ?_
        rotate_left
        focus (intro w hSw; have hSc := HSS.out w hSw; clear hSw; go_simp; first | done | with_reducible rfl)
        try simp only [Act.put, List.setIfInBounds_toArray, List.set_cons_zero, List.set_cons_succ]
        refine held_on (i := 32) (d := (some 133)) (v := ?_) rfl rfl (by kernel_rfl) (by kernel_rfl) (by kernel_rfl) (fun _ _ _ h => h) (by rfl) hHeld ?_ ?_
        rotate_left
        focus (intro w hSw; have hSc := HSS.out w hSw; clear hSw; go_simp; first | done | with_reducible rfl)
        try simp only [Act.put, List.setIfInBounds_toArray, List.set_cons_zero, List.set_cons_succ]
        refine wpAnyH_done (by kernel_rfl) ?_ _
        have HX7 := Lib.hid (show Ext W w7 from hHeld)
        have c7 := (HX7.out.cell (o := 0) lw5).trans HCI.out
        have f7 := (HX7.out.frozen (o := 0) lw5).trans HFI.out
        have l7 : w5.heap.size < w7.heap.size := Nat.lt_of_lt_of_le lw5 HX7.out.size
        clear hHeld hx7
        gi_wp2_with fail
        refine ⟨(HX7.out.others.trans (KeepsOthers.setCell _ _ _)).from _, (HX7.out.below.mono (by omega)).setCell (p := ⟨w5.heap.size, 0, none⟩) (Nat.le_refl _) _, ⟨?_, by rw [World.frozen?_setCell]; exact f7⟩, (HBEL.out.trans (HX7.out.below.mono (by omega))).setCell (p := ⟨w5.heap.size, 0, none⟩) (Nat.le_refl _) _⟩
        refine (World.cell?_setCell_same w7 _ _ c7).trans ?_
        have := HK.out
        rw [List.length_append, List.length_singleton, show (g : Int) + ((pre.length + 1 : Nat) : Int) = (k : Int) + 1 from by omega]
      · have hqd : decide (xq = rq) = false := decide_eq_false hq
        have HQ := Lib.hid hq
        clear hq
        refine wpIn_region_roundE (f := 35) (enters_of Try.func35 (by kernel_rfl) rfl) (S := (fun w' => Ext W w')) (by kernel_rfl) (by rintro ⟨a, w, h⟩; exact h) (by kernel_rfl) (((Ext.refl W).drew)) (fun hHeld => ?_)
        refine held_on (i := 0) (d := (some 101)) (v := ?_) rfl rfl (by kernel_rfl) (by kernel_rfl) (by kernel_rfl) (fun _ _ _ h => h) (by rfl) hHeld ?_ ?_
        rotate_left
        focus (intro w hSw; have hSc := HSS.out w hSw; clear hSw; go_simp; first | done | with_reducible rfl)
        try simp only [Act.put, List.setIfInBounds_toArray, List.set_cons_zero, List.set_cons_succ]
        refine held_on (i := 1) (d := (some 102)) (v := ?_) rfl rfl (by kernel_rfl) (by kernel_rfl) (by kernel_rfl) (fun _ _ _ h => h) (by rfl) hHeld ?_ ?_
        rotate_left
        focus (intro w hSw; have hSc := HSS.out w hSw; clear hSw; go_simp; first | done | with_reducible rfl)
        try simp only [Act.put, List.setIfInBounds_toArray, List.set_cons_zero, List.set_cons_succ]
        refine held_on (i := 2) (d := (some 103)) (v := ?_) rfl rfl (by kernel_rfl) (by kernel_rfl) (by kernel_rfl) (fun _ _ _ h => h) (by rfl) hHeld ?_ ?_
        rotate_left
        focus (intro w hSw; have hSc := HSS.out w hSw; clear hSw; go_simp; first | done | with_reducible rfl)
        try simp only [Act.put, List.setIfInBounds_toArray, List.set_cons_zero, List.set_cons_succ]
        refine held_on (i := 3) (d := (some 104)) (v := ?_) rfl rfl (by kernel_rfl) (by kernel_rfl) (by kernel_rfl) (fun _ _ _ h => h) (by rfl) hHeld ?_ ?_
        rotate_left
        focus (intro w hSw; have hSc := HSS.out w hSw; clear hSw; go_simp; first | done | with_reducible rfl)
        try simp only [Act.put, List.setIfInBounds_toArray, List.set_cons_zero, List.set_cons_succ]
        refine held_on (i := 4) (d := (some 105)) (v := ?_) rfl rfl (by kernel_rfl) (by kernel_rfl) (by kernel_rfl) (fun _ _ _ h => h) (by rfl) hHeld ?_ ?_
        rotate_left
        focus (intro w hSw; have hSc := HSS.out w hSw; clear hSw; go_simp; first | done | with_reducible rfl)
        try simp only [Act.put, List.setIfInBounds_toArray, List.set_cons_zero, List.set_cons_succ]
        refine held_on (i := 5) (d := (some 106)) (v := ?_) rfl rfl (by kernel_rfl) (by kernel_rfl) (by kernel_rfl) (fun _ _ _ h => h) (by rfl) hHeld ?_ ?_
        rotate_left
        focus (intro w hSw; have hSc := HSS.out w hSw; clear hSw; go_simp; first | done | with_reducible rfl)
        try simp only [Act.put, List.setIfInBounds_toArray, List.set_cons_zero, List.set_cons_succ]
        refine held_on (i := 6) (d := (some 107)) (v := ?_) rfl rfl (by kernel_rfl) (by kernel_rfl) (by kernel_rfl) (fun _ _ _ h => h) (by rfl) hHeld ?_ ?_
        rotate_left
        focus (intro w hSw; have hSc := HSS.out w hSw; clear hSw; go_simp; first | done | with_reducible rfl)
        try simp only [Act.put, List.setIfInBounds_toArray, List.set_cons_zero, List.set_cons_succ]
        refine held_on (i := 7) (d := (some 108)) (v := ?_) rfl rfl (by kernel_rfl) (by kernel_rfl) (by kernel_rfl) (fun _ _ _ h => h) (by rfl) hHeld ?_ ?_
        rotate_left
        focus (intro w hSw; have hSc := HSS.out w hSw; clear hSw; go_simp; first | done | with_reducible rfl)
        try simp only [Act.put, List.setIfInBounds_toArray, List.set_cons_zero, List.set_cons_succ]
        refine held_on (i := 8) (d := (some 109)) (v := ?_) rfl rfl (by kernel_rfl) (by kernel_rfl) (by kernel_rfl) (fun _ _ _ h => h) (by rfl) hHeld ?_ ?_
        rotate_left
        focus (intro w hSw; have hSc := HSS.out w hSw; clear hSw; go_simp; first | done | with_reducible rfl)
        try simp only [Act.put, List.setIfInBounds_toArray, List.set_cons_zero, List.set_cons_succ]
        refine held_on (i := 9) (d := (some 110)) (v := ?_) rfl rfl (by kernel_rfl) (by kernel_rfl) (by kernel_rfl) (fun _ _ _ h => h) (by rfl) hHeld ?_ ?_
        rotate_left
        focus (intro w hSw; have hSc := HSS.out w hSw; clear hSw; go_simp; first | done | with_reducible rfl)
        try simp only [Act.put, List.setIfInBounds_toArray, List.set_cons_zero, List.set_cons_succ]
        refine held_on (i := 10) (d := (some 111)) (v := ?_) rfl rfl (by kernel_rfl) (by kernel_rfl) (by kernel_rfl) (fun _ _ _ h => h) (by rfl) hHeld ?_ ?_
        rotate_left
        focus (intro w hSw; have hSc := HSS.out w hSw; clear hSw; go_simp; first | done | with_reducible rfl)
        try simp only [Act.put, List.setIfInBounds_toArray, List.set_cons_zero, List.set_cons_succ]
        refine held_on (i := 11) (d := (some 112)) (v := ?_) rfl rfl (by kernel_rfl) (by kernel_rfl) (by kernel_rfl) (fun _ _ _ h => h) (by rfl) hHeld ?_ ?_
        rotate_left
        focus (intro w hSw; have hSc := HSS.out w hSw; clear hSw; go_simp; first | done | with_reducible rfl)
        try simp only [Act.put, List.setIfInBounds_toArray, List.set_cons_zero, List.set_cons_succ]
        refine held_on (i := 12) (d := (some 113)) (v := ?_) rfl rfl (by kernel_rfl) (by kernel_rfl) (by kernel_rfl) (fun _ _ _ h => h) (by rfl) hHeld ?_ ?_
        rotate_left
        focus (intro w hSw; have hSc := HSS.out w hSw; clear hSw; go_simp; first | done | with_reducible rfl)
        try simp only [Act.put, List.setIfInBounds_toArray, List.set_cons_zero, List.set_cons_succ]
        refine held_on (i := 13) (d := (some 114)) (v := ?_) rfl rfl (by kernel_rfl) (by kernel_rfl) (by kernel_rfl) (fun _ _ _ h => h) (by rfl) hHeld ?_ ?_
        rotate_left
        focus (intro w hSw; have hSc := HSS.out w hSw; clear hSw; go_simp; first | done | with_reducible rfl)
        try simp only [Act.put, List.setIfInBounds_toArray, List.set_cons_zero, List.set_cons_succ]
        refine held_on (i := 14) (d := (some 115)) (v := ?_) rfl rfl (by kernel_rfl) (by kernel_rfl) (by kernel_rfl) (fun _ _ _ h => h) (by rfl) hHeld ?_ ?_
        rotate_left
        focus (intro w hSw; have hSc := HSS.out w hSw; clear hSw; go_simp; first | done | with_reducible rfl)
        try simp only [Act.put, List.setIfInBounds_toArray, List.set_cons_zero, List.set_cons_succ]
        refine held_on (i := 15) (d := (some 116)) (v := ?_) rfl rfl (by kernel_rfl) (by kernel_rfl) (by kernel_rfl) (fun _ _ _ h => h) (by rfl) hHeld ?_ ?_
        rotate_left
        focus (intro w hSw; have hSc := HSS.out w hSw; clear hSw; go_simp; first | done | with_reducible rfl)
        try simp only [Act.put, List.setIfInBounds_toArray, List.set_cons_zero, List.set_cons_succ]
        refine held_on (i := 16) (d := (some 117)) (v := ?_) rfl rfl (by kernel_rfl) (by kernel_rfl) (by kernel_rfl) (fun _ _ _ h => h) (by rfl) hHeld ?_ ?_
        rotate_left
        focus (intro w hSw; have hSc := HSS.out w hSw; clear hSw; go_simp; first | done | with_reducible rfl)
        try simp only [Act.put, List.setIfInBounds_toArray, List.set_cons_zero, List.set_cons_succ]
        refine held_on (i := 17) (d := (some 118)) (v := ?_) rfl rfl (by kernel_rfl) (by kernel_rfl) (by kernel_rfl) (fun _ _ _ h => h) (by rfl) hHeld ?_ ?_
        rotate_left
        focus (intro w hSw; have hSc := HSS.out w hSw; clear hSw; go_simp; first | done | with_reducible rfl)
        try simp only [Act.put, List.setIfInBounds_toArray, List.set_cons_zero, List.set_cons_succ]
        refine held_on (i := 18) (d := (some 119)) (v := ?_) rfl rfl (by kernel_rfl) (by kernel_rfl) (by kernel_rfl) (fun _ _ _ h => h) (by rfl) hHeld ?_ ?_
        rotate_left
        focus (intro w hSw; have hSc := HSS.out w hSw; clear hSw; go_simp; first | done | with_reducible rfl)
        try simp only [Act.put, List.setIfInBounds_toArray, List.set_cons_zero, List.set_cons_succ]
        refine held_on (i := 19) (d := (some 120)) (v := ?_) rfl rfl (by kernel_rfl) (by kernel_rfl) (by kernel_rfl) (fun _ _ _ h => h) (by rfl) hHeld ?_ ?_
        rotate_left
        focus (intro w hSw; have hSc := HSS.out w hSw; clear hSw; go_simp; first | done | with_reducible rfl)
        try simp only [Act.put, List.setIfInBounds_toArray, List.set_cons_zero, List.set_cons_succ]
        refine held_on (i := 20) (d := (some 121)) (v := ?_) rfl rfl (by kernel_rfl) (by kernel_rfl) (by kernel_rfl) (fun _ _ _ h => h) (by rfl) hHeld ?_ ?_
        rotate_left
        focus (intro w hSw; have hSc := HSS.out w hSw; clear hSw; go_simp; first | done | with_reducible rfl)
        try simp only [Act.put, List.setIfInBounds_toArray, List.set_cons_zero, List.set_cons_succ]
        refine held_on (i := 21) (d := (some 122)) (v := ?_) rfl rfl (by kernel_rfl) (by kernel_rfl) (by kernel_rfl) (fun _ _ _ h => h) (by rfl) hHeld ?_ ?_
        rotate_left
        focus (intro w hSw; have hSc := HSS.out w hSw; clear hSw; go_simp; first | done | with_reducible rfl)
        try simp only [Act.put, List.setIfInBounds_toArray, List.set_cons_zero, List.set_cons_succ]
        refine held_on (i := 22) (d := (some 123)) (v := ?_) rfl rfl (by kernel_rfl) (by kernel_rfl) (by kernel_rfl) (fun _ _ _ h => h) (by rfl) hHeld ?_ ?_
        rotate_left
        focus (intro w hSw; have hSc := HSS.out w hSw; clear hSw; go_simp; first | done | with_reducible rfl)
        try simp only [Act.put, List.setIfInBounds_toArray, List.set_cons_zero, List.set_cons_succ]
        refine held_on (i := 23) (d := (some 124)) (v := ?_) rfl rfl (by kernel_rfl) (by kernel_rfl) (by kernel_rfl) (fun _ _ _ h => h) (by rfl) hHeld ?_ ?_
        rotate_left
        focus (intro w hSw; have hSc := HSS.out w hSw; clear hSw; go_simp; first | done | with_reducible rfl)
        try simp only [Act.put, List.setIfInBounds_toArray, List.set_cons_zero, List.set_cons_succ]
        refine held_on (i := 24) (d := (some 125)) (v := ?_) rfl rfl (by kernel_rfl) (by kernel_rfl) (by kernel_rfl) (fun _ _ _ h => h) (by rfl) hHeld ?_ ?_
        rotate_left
        focus (intro w hSw; have hSc := HSS.out w hSw; clear hSw; go_simp; first | done | with_reducible rfl)
        try simp only [Act.put, List.setIfInBounds_toArray, List.set_cons_zero, List.set_cons_succ]
        refine held_on (i := 25) (d := (some 126)) (v := ?_) rfl rfl (by kernel_rfl) (by kernel_rfl) (by kernel_rfl) (fun _ _ _ h => h) (by rfl) hHeld ?_ ?_
        rotate_left
        focus (intro w hSw; have hSc := HSS.out w hSw; clear hSw; go_simp; first | done | with_reducible rfl)
        try simp only [Act.put, List.setIfInBounds_toArray, List.set_cons_zero, List.set_cons_succ]
        refine held_on (i := 26) (d := (some 127)) (v := ?_) rfl rfl (by kernel_rfl) (by kernel_rfl) (by kernel_rfl) (fun _ _ _ h => h) (by rfl) hHeld ?_ ?_
        rotate_left
        focus (intro w hSw; have hSc := HSS.out w hSw; clear hSw; go_simp; first | done | with_reducible rfl)
        try simp only [Act.put, List.setIfInBounds_toArray, List.set_cons_zero, List.set_cons_succ]
        refine held_on (i := 27) (d := (some 128)) (v := ?_) rfl rfl (by kernel_rfl) (by kernel_rfl) (by kernel_rfl) (fun _ _ _ h => h) (by rfl) hHeld ?_ ?_
        rotate_left
        focus (intro w hSw; have hSc := HSS.out w hSw; clear hSw; go_simp; first | done | with_reducible rfl)
        try simp only [Act.put, List.setIfInBounds_toArray, List.set_cons_zero, List.set_cons_succ]
        refine held_on (i := 28) (d := (some 129)) (v := ?_) rfl rfl (by kernel_rfl) (by kernel_rfl) (by kernel_rfl) (fun _ _ _ h => h) (by rfl) hHeld ?_ ?_
        rotate_left
        focus (intro w hSw; have hSc := HSS.out w hSw; clear hSw; go_simp; first | done | with_reducible rfl)
        try simp only [Act.put, List.setIfInBounds_toArray, List.set_cons_zero, List.set_cons_succ]
        refine held_on (i := 29) (d := (some 130)) (v := ?_) rfl rfl (by kernel_rfl) (by kernel_rfl) (by kernel_rfl) (fun _ _ _ h => h) (by rfl) hHeld ?_ ?_
        rotate_left
        focus (intro w hSw; have hSc := HSS.out w hSw; clear hSw; go_simp; first | done | with_reducible rfl)
        try simp only [Act.put, List.setIfInBounds_toArray, List.set_cons_zero, List.set_cons_succ]
        refine held_call (i := 30) (by kernel_rfl) rfl (by rfl) (fun K hK => ?_)
        go_simp
        (refine (HIS.out _ hHeld).mono ?_; rintro e w7 ⟨rfl, hx7⟩; rw [hqd])
        refine hK.out _ _ (hHeld.trans hx7) (fun hHeld => ?_)
        clear hK K
        try simp only [Act.put, List.setIfInBounds_toArray, List.set_cons_zero, List.set_cons_succ]
        refine held_on (i := 31) (d := (some 132)) (v := ?_) rfl rfl (by kernel_rfl) (by kernel_rfl) (by kernel_rfl) (fun _ _ _ h => h) (by rfl) hHeld ?_ ?_
        rotate_left
        focus (intro w hSw; have hSc := HSS.out w hSw; clear hSw; go_simp; first | done | with_reducible rfl)
        try simp only [Act.put, List.setIfInBounds_toArray, List.set_cons_zero, List.set_cons_succ]
        refine held_on (i := 32) (d := (some 133)) (v := ?_) rfl rfl (by kernel_rfl) (by kernel_rfl) (by kernel_rfl) (fun _ _ _ h => h) (by rfl) hHeld ?_ ?_
        rotate_left
        focus (intro w hSw; have hSc := HSS.out w hSw; clear hSw; go_simp; first | done | with_reducible rfl)
        try simp only [Act.put, List.setIfInBounds_toArray, List.set_cons_zero, List.set_cons_succ]
        refine wpAnyH_done (by kernel_rfl) ?_ _
        have HX7 := Lib.hid (show Ext W w7 from hHeld)
        have hb6 := HZ6.out.ext HX7.out
        have c6 : w7.cell? ⟨w.heap.size + 1 + 1, 0, none⟩ = some (.bool false) := hb6.cell 0
        have f6 := hb6.frozen 0
        have l6 := hb6.lt
        clear hHeld hx7 hb6
        gi_wp2_with fail
        refine ⟨(HX7.out.others.trans (KeepsOthers.setCell _ _ _)).from _, rfl, pre, _, rfl, fun e => ?_⟩
        have e2 := congrArg Prod.snd e
        dsimp only at e2
        rw [HK.out, HNK.out, HRQ.out] at e2
        exact HQ.out e2
    · have hvb : ((y : Int) != (xv : Int)) = true := bne_iff_ne.2 (by omega)
      have hvb' : (y != xv) = true := bne_iff_ne.2 hv
      have HV := Lib.hid hv
      clear hv
      refine wpIn_region_roundE (f := 35) (enters_of Try.func35 (by kernel_rfl) rfl) (S := (fun w' => Ext W w')) (by kernel_rfl) (by rintro ⟨a, w, h⟩; exact h) (by kernel_rfl) (((Ext.refl W).drew)) (fun hHeld => ?_)
      refine held_on (i := 0) (d := (some 101)) (v := ?_) rfl rfl (by kernel_rfl) (by kernel_rfl) (by kernel_rfl) (fun _ _ _ h => h) (by rfl) hHeld ?_ ?_
      rotate_left
      focus (intro w hSw; have hSc := HSS.out w hSw; clear hSw; go_simp; first | done | with_reducible rfl)
      try simp only [Act.put, List.setIfInBounds_toArray, List.set_cons_zero, List.set_cons_succ]
      refine held_on (i := 1) (d := (some 102)) (v := ?_) rfl rfl (by kernel_rfl) (by kernel_rfl) (by kernel_rfl) (fun _ _ _ h => h) (by rfl) hHeld ?_ ?_
      rotate_left
      focus (intro w hSw; have hSc := HSS.out w hSw; clear hSw; go_simp; first | done | with_reducible rfl)
      try simp only [Act.put, List.setIfInBounds_toArray, List.set_cons_zero, List.set_cons_succ]
      refine held_on (i := 2) (d := (some 103)) (v := ?_) rfl rfl (by kernel_rfl) (by kernel_rfl) (by kernel_rfl) (fun _ _ _ h => h) (by rfl) hHeld ?_ ?_
      rotate_left
      focus (intro w hSw; have hSc := HSS.out w hSw; clear hSw; go_simp; first | done | with_reducible rfl)
      try simp only [Act.put, List.setIfInBounds_toArray, List.set_cons_zero, List.set_cons_succ]
      refine held_on (i := 3) (d := (some 104)) (v := ?_) rfl rfl (by kernel_rfl) (by kernel_rfl) (by kernel_rfl) (fun _ _ _ h => h) (by rfl) hHeld ?_ ?_
      rotate_left
      focus (intro w hSw; have hSc := HSS.out w hSw; clear hSw; go_simp; first | done | with_reducible rfl)
      try simp only [Act.put, List.setIfInBounds_toArray, List.set_cons_zero, List.set_cons_succ]
      refine held_on (i := 4) (d := (some 105)) (v := ?_) rfl rfl (by kernel_rfl) (by kernel_rfl) (by kernel_rfl) (fun _ _ _ h => h) (by rfl) hHeld ?_ ?_
      rotate_left
      focus (intro w hSw; have hSc := HSS.out w hSw; clear hSw; go_simp; first | done | with_reducible rfl)
      try simp only [Act.put, List.setIfInBounds_toArray, List.set_cons_zero, List.set_cons_succ]
      refine held_on (i := 5) (d := (some 106)) (v := ?_) rfl rfl (by kernel_rfl) (by kernel_rfl) (by kernel_rfl) (fun _ _ _ h => h) (by rfl) hHeld ?_ ?_
      rotate_left
      focus (intro w hSw; have hSc := HSS.out w hSw; clear hSw; go_simp; first | done | with_reducible rfl)
      try simp only [Act.put, List.setIfInBounds_toArray, List.set_cons_zero, List.set_cons_succ]
      refine held_on (i := 6) (d := (some 107)) (v := ?_) rfl rfl (by kernel_rfl) (by kernel_rfl) (by kernel_rfl) (fun _ _ _ h => h) (by rfl) hHeld ?_ ?_
      rotate_left
      focus (intro w hSw; have hSc := HSS.out w hSw; clear hSw; go_simp; first | done | with_reducible rfl)
      try simp only [Act.put, List.setIfInBounds_toArray, List.set_cons_zero, List.set_cons_succ]
      refine held_on (i := 7) (d := (some 108)) (v := ?_) rfl rfl (by kernel_rfl) (by kernel_rfl) (by kernel_rfl) (fun _ _ _ h => h) (by rfl) hHeld ?_ ?_
      rotate_left
      focus (intro w hSw; have hSc := HSS.out w hSw; clear hSw; go_simp; first | done | with_reducible rfl)
      try simp only [Act.put, List.setIfInBounds_toArray, List.set_cons_zero, List.set_cons_succ]
      refine held_on (i := 8) (d := (some 109)) (v := ?_) rfl rfl (by kernel_rfl) (by kernel_rfl) (by kernel_rfl) (fun _ _ _ h => h) (by rfl) hHeld ?_ ?_
      rotate_left
      focus (intro w hSw; have hSc := HSS.out w hSw; clear hSw; go_simp; first | done | with_reducible rfl)
      try simp only [Act.put, List.setIfInBounds_toArray, List.set_cons_zero, List.set_cons_succ]
      refine held_on (i := 9) (d := (some 110)) (v := ?_) rfl rfl (by kernel_rfl) (by kernel_rfl) (by kernel_rfl) (fun _ _ _ h => h) (by rfl) hHeld ?_ ?_
      rotate_left
      focus (intro w hSw; have hSc := HSS.out w hSw; clear hSw; go_simp; first | done | with_reducible rfl)
      try simp only [Act.put, List.setIfInBounds_toArray, List.set_cons_zero, List.set_cons_succ]
      refine held_on (i := 10) (d := (some 111)) (v := ?_) rfl rfl (by kernel_rfl) (by kernel_rfl) (by kernel_rfl) (fun _ _ _ h => h) (by rfl) hHeld ?_ ?_
      rotate_left
      focus (intro w hSw; have hSc := HSS.out w hSw; clear hSw; go_simp; first | done | with_reducible rfl)
      try simp only [Act.put, List.setIfInBounds_toArray, List.set_cons_zero, List.set_cons_succ]
      refine held_on (i := 11) (d := (some 112)) (v := ?_) rfl rfl (by kernel_rfl) (by kernel_rfl) (by kernel_rfl) (fun _ _ _ h => h) (by rfl) hHeld ?_ ?_
      rotate_left
      focus (intro w hSw; have hSc := HSS.out w hSw; clear hSw; go_simp; first | done | with_reducible rfl)
      try simp only [Act.put, List.setIfInBounds_toArray, List.set_cons_zero, List.set_cons_succ]
      refine held_on (i := 12) (d := (some 113)) (v := ?_) rfl rfl (by kernel_rfl) (by kernel_rfl) (by kernel_rfl) (fun _ _ _ h => h) (by rfl) hHeld ?_ ?_
      rotate_left
      focus (intro w hSw; have hSc := HSS.out w hSw; clear hSw; go_simp; first | done | with_reducible rfl)
      try simp only [Act.put, List.setIfInBounds_toArray, List.set_cons_zero, List.set_cons_succ]
      refine held_on (i := 13) (d := (some 114)) (v := ?_) rfl rfl (by kernel_rfl) (by kernel_rfl) (by kernel_rfl) (fun _ _ _ h => h) (by rfl) hHeld ?_ ?_
      rotate_left
      focus (intro w hSw; have hSc := HSS.out w hSw; clear hSw; go_simp; first | done | with_reducible rfl)
      try simp only [Act.put, List.setIfInBounds_toArray, List.set_cons_zero, List.set_cons_succ]
      refine held_on (i := 14) (d := (some 115)) (v := ?_) rfl rfl (by kernel_rfl) (by kernel_rfl) (by kernel_rfl) (fun _ _ _ h => h) (by rfl) hHeld ?_ ?_
      rotate_left
      focus (intro w hSw; have hSc := HSS.out w hSw; clear hSw; go_simp; first | done | with_reducible rfl)
      try simp only [Act.put, List.setIfInBounds_toArray, List.set_cons_zero, List.set_cons_succ]
      refine held_on (i := 15) (d := (some 116)) (v := ?_) rfl rfl (by kernel_rfl) (by kernel_rfl) (by kernel_rfl) (fun _ _ _ h => h) (by rfl) hHeld ?_ ?_
      rotate_left
      focus (intro w hSw; have hSc := HSS.out w hSw; clear hSw; go_simp; first | done | with_reducible rfl)
      try simp only [Act.put, List.setIfInBounds_toArray, List.set_cons_zero, List.set_cons_succ]
      refine held_on (i := 16) (d := (some 117)) (v := ?_) rfl rfl (by kernel_rfl) (by kernel_rfl) (by kernel_rfl) (fun _ _ _ h => h) (by rfl) hHeld ?_ ?_
      rotate_left
      focus (intro w hSw; have hSc := HSS.out w hSw; clear hSw; go_simp; first | done | with_reducible rfl)
      try simp only [Act.put, List.setIfInBounds_toArray, List.set_cons_zero, List.set_cons_succ]
      refine held_on (i := 17) (d := (some 118)) (v := ?_) rfl rfl (by kernel_rfl) (by kernel_rfl) (by kernel_rfl) (fun _ _ _ h => h) (by rfl) hHeld ?_ ?_
      rotate_left
      focus (intro w hSw; have hSc := HSS.out w hSw; clear hSw; go_simp; first | done | with_reducible rfl)
      try simp only [Act.put, List.setIfInBounds_toArray, List.set_cons_zero, List.set_cons_succ]
      refine held_on (i := 18) (d := (some 119)) (v := ?_) rfl rfl (by kernel_rfl) (by kernel_rfl) (by kernel_rfl) (fun _ _ _ h => h) (by rfl) hHeld ?_ ?_
      rotate_left
      focus (intro w hSw; have hSc := HSS.out w hSw; clear hSw; go_simp; first | done | with_reducible rfl)
      try simp only [Act.put, List.setIfInBounds_toArray, List.set_cons_zero, List.set_cons_succ]
      refine held_off (i := 19) (d := (some 120)) rfl rfl (by kernel_rfl) (by kernel_rfl) (by kernel_rfl) (fun _ _ _ h => h) (by rfl) hHeld ?_
      try simp only [Act.put, List.setIfInBounds_toArray, List.set_cons_zero, List.set_cons_succ]
      refine held_off (i := 20) (d := (some 121)) rfl rfl (by kernel_rfl) (by kernel_rfl) (by kernel_rfl) (fun _ _ _ h => h) (by rfl) hHeld ?_
      try simp only [Act.put, List.setIfInBounds_toArray, List.set_cons_zero, List.set_cons_succ]
      refine held_off (i := 21) (d := (some 122)) rfl rfl (by kernel_rfl) (by kernel_rfl) (by kernel_rfl) (fun _ _ _ h => h) (by rfl) hHeld ?_
      try simp only [Act.put, List.setIfInBounds_toArray, List.set_cons_zero, List.set_cons_succ]
      refine held_off (i := 22) (d := (some 123)) rfl rfl (by kernel_rfl) (by kernel_rfl) (by kernel_rfl) (fun _ _ _ h => h) (by rfl) hHeld ?_
      try simp only [Act.put, List.setIfInBounds_toArray, List.set_cons_zero, List.set_cons_succ]
      refine held_off (i := 23) (d := (some 124)) rfl rfl (by kernel_rfl) (by kernel_rfl) (by kernel_rfl) (fun _ _ _ h => h) (by rfl) hHeld ?_
      try simp only [Act.put, List.setIfInBounds_toArray, List.set_cons_zero, List.set_cons_succ]
      refine held_off (i := 24) (d := (some 125)) rfl rfl (by kernel_rfl) (by kernel_rfl) (by kernel_rfl) (fun _ _ _ h => h) (by rfl) hHeld ?_
      try simp only [Act.put, List.setIfInBounds_toArray, List.set_cons_zero, List.set_cons_succ]
      refine held_off (i := 25) (d := (some 126)) rfl rfl (by kernel_rfl) (by kernel_rfl) (by kernel_rfl) (fun _ _ _ h => h) (by rfl) hHeld ?_
      try simp only [Act.put, List.setIfInBounds_toArray, List.set_cons_zero, List.set_cons_succ]
      refine held_off (i := 26) (d := (some 127)) rfl rfl (by kernel_rfl) (by kernel_rfl) (by kernel_rfl) (fun _ _ _ h => h) (by rfl) hHeld ?_
      try simp only [Act.put, List.setIfInBounds_toArray, List.set_cons_zero, List.set_cons_succ]
      refine held_off (i := 27) (d := (some 128)) rfl rfl (by kernel_rfl) (by kernel_rfl) (by kernel_rfl) (fun _ _ _ h => h) (by rfl) hHeld ?_
      try simp only [Act.put, List.setIfInBounds_toArray, List.set_cons_zero, List.set_cons_succ]
      refine held_off (i := 28) (d := (some 129)) rfl rfl (by kernel_rfl) (by kernel_rfl) (by kernel_rfl) (fun _ _ _ h => h) (by rfl) hHeld ?_
      try simp only [Act.put, List.setIfInBounds_toArray, List.set_cons_zero, List.set_cons_succ]
      refine held_off (i := 29) (d := (some 130)) rfl rfl (by kernel_rfl) (by kernel_rfl) (by kernel_rfl) (fun _ _ _ h => h) (by rfl) hHeld ?_
      try simp only [Act.put, List.setIfInBounds_toArray, List.set_cons_zero, List.set_cons_succ]
      refine held_off (i := 30) (d := (some 131)) rfl rfl (by kernel_rfl) (by kernel_rfl) (by kernel_rfl) (fun _ _ _ h => h) (by rfl) hHeld ?_
      try simp only [Act.put, List.setIfInBounds_toArray, List.set_cons_zero, List.set_cons_succ]
      refine held_off (i := 31) (d := (some 132)) rfl rfl (by kernel_rfl) (by kernel_rfl) (by kernel_rfl) (fun _ _ _ h => h) (by rfl) hHeld ?_
      try simp only [Act.put, List.setIfInBounds_toArray, List.set_cons_zero, List.set_cons_succ]
      refine held_on (i := 32) (d := (some 133)) (v := ?_) rfl rfl (by kernel_rfl) (by kernel_rfl) (by kernel_rfl) (fun _ _ _ h => h) (by rfl) hHeld ?_ ?_
      rotate_left
      focus (intro w hSw; have hSc := HSS.out w hSw; clear hSw; go_simp; first | done | with_reducible rfl)
      try simp only [Act.put, List.setIfInBounds_toArray, List.set_cons_zero, List.set_cons_succ]
      refine wpAnyH_done (by kernel_rfl) ?_ _
      have HX7 := Lib.hid hHeld
      have c6 : W.cell? ⟨w.heap.size + 1 + 1, 0, none⟩ = some (.bool false) := HZ6.out.cell 0
      have f6 := HZ6.out.frozen 0
      clear hHeld
      gi_wp2_with fail
      have hko := (KeepsOthers.setCell W ⟨w.heap.size + 1 + 1, 0, none⟩ (.bool false)).from (w5.alloc (.cells #[.int .i64 g] 3)).heap.size
      refine ⟨⟨hko.size, hko.same⟩, rfl, pre, _, rfl, fun e => ?_⟩
      have e2 := congrArg Prod.fst e
      dsimp only at e2
      have h1 := HV.out
      have h2 := HK.out
      have h3 := HYK.out
      omega
  case done =>
    rintro D ys W hD hys hI hK
    obtain ⟨⟨hci, hfi⟩, hbel⟩ := hI
    have hyl : ys.length = min m keep := by
      have := congrArg List.length hys
      rwa [List.length_map, toldL_len, show (psOf a b c d ns).length = m from by simp [psOf, HM.out]] at this
    have hgi : (g : Int) + (ys.length : Int) = (m : Int) := by have := HG.out; omega
    rw [hgi] at hci
    clear hys hyl hgi
    have hr5 := (HRW.out.ext HX6.out).below hbel
    obtain ⟨-, p1, p2⟩ := hr5.blk.c3
    rw [HM.out] at p1
    have lP := hr5.blk.lt
    have hag5 : Agree (Lt w5.heap.size) w5 W := Agree.of_below hbel fun _ h => h
    have z4 : W.cell? ⟨w.heap.size, 0, none⟩ = some (.pointer (some ⟨P, 0, none⟩)) := (HI1.out.agree hag5 HI1.out.lt).cell 0
    have z6 := HI3.out.agree hag5 HI3.out.lt
    have c6 : W.cell? ⟨w.heap.size + 1 + 1, 0, none⟩ = some (.bool false) := z6.cell 0
    have f6 := z6.frozen 0
    have l6 := z6.lt
    have HZ6 := Lib.hid z6
    have HCI := Lib.hid hci
    have HFI := Lib.hid hfi
    have HBEL := Lib.hid hbel
    have HK := Lib.hid hK
    clear hfi hbel hK hr5 p2 hag5 z6
    gi_wp2_with fail
    refine wpIn_wide.2 ?_
    go_region
    gi_wp2_with fail
    have hKD : (W.setCell ⟨w.heap.size + 1 + 1, 0, none⟩ (.bool true)).drew.heap[D]? = some (.deferred (some [])) := (Below.heap_setCell W ⟨w.heap.size + 1 + 1, 0, none⟩ (.bool true) D (by have h7 := HZ6.out.lt; have h8 := HX6.out.size; have h9 := HI3.out.lt; rw [World.size_alloc] at hD; show D ≠ w.heap.size + 1 + 1; omega)).trans HK.out
    refine ⟨by simp, .inl ⟨_, _, rfl, run_takeDeferred hKD, ?_⟩⟩
    have hc7 : (W.setCell ⟨w.heap.size + 1 + 1, 0, none⟩ (.bool true)).drew.cell? ⟨w.heap.size + 1 + 1, 0, none⟩ = some (.bool true) := World.cell?_setCell_same W _ _ (HZ6.out.cell 0)
    have hc8 := cell_kept hc7 (grownBy_putObj' _ D (.deferred none)) (fun r e => by cases e; exact ⟨_, hKD, rfl⟩)
    have hb6 : Below w.heap.size w (W.setCell ⟨w.heap.size + 1 + 1, 0, none⟩ (.bool true)).drew := by
      have hq := (HX6.out.below.trans (HBEL.out.mono HX6.out.size)).setCell (p := ⟨w.heap.size + 1 + 1, 0, none⟩) (by show w.heap.size ≤ w.heap.size + 1 + 1; omega) (.bool true)
      exact ⟨hq.os, hq.tape, hq.output, hq.size, hq.block⟩
    have hb8 := hb6.trans (belowK_b (w := w) (Nat.le_refl _) _ D _ (.deferred none) (by have := HX6.out.size; rw [World.size_alloc] at hD; omega) hKD rfl rfl)
    refine ⟨.bool true, ?_, rfl, hb8⟩
    simp [results, Try.results46, go_sem, hc8]
  case stop =>
    rintro D c pre W hD hSp ⟨rfl, pre', p, rfl, hp⟩ hK
    exfalso
    have hpl2 : (psOf a b c d ns).length = m := by simp [psOf, HM.out]
    obtain ⟨tls, htl⟩ := hSp
    have h1 : (toldL keep f (psOf a b c d ns))[pre'.length]? = some p.1 := by
      rw [← htl, List.map_append, List.append_assoc, List.getElem?_append_right (by simp)]; simp
    have hlt : pre'.length < min (psOf a b c d ns).length keep := by
      rw [← toldL_len keep f]; exact (List.getElem?_eq_some_iff.1 h1).1
    rw [toldL_at hlt] at h1
    simp only [Option.some.injEq] at h1
    have hgo : gone keep (psOf a b c d ns) = g := by rw [← HG.out]; unfold gone; rw [hpl2]
    rw [hgo] at h1
    refine hp (h1.symm.trans ?_)
    rw [psOf_at (by rw [hpl2] at hlt; have h5 := HG.out; rw [HM.out]; omega)]
end Go.Proofs.Ytpapoalgocmlaaa
namespace Go.Proofs.Ytpapoalgocmlaaa
open Go.RowKit Go.Shelf
set_option linter.unusedVariables false
set_option linter.unusedSimpArgs false
attribute [local go_sem] Oper.semAt_some
set_option maxRecDepth 100000 in
set_option maxHeartbeats 4000000 in
theorem same_none {w : World} {L R keep f P T : Nat} {row : Array Value} {sv sn : Sl} (hl : LogAt w L R keep f []) (hr : RefL w P keep f [] sv sn) (hT : Blk w T 30 row) :
    Calls Try.prog 46 #[logV L, .pointer (some ⟨P, 0, none⟩), .slice (some ⟨T, 0, none⟩) 5 5] w fun e w' => e = .returned (.bool true) ∧ Below w.heap.size w w' := by
  have hk1 := hr.keep1
  have hfi : ∀ W, Ext w W → Calls Try.prog 100 #[.pointer (some ⟨P, 0, none⟩)] W fun e w' => e = .returned (.int .i64 0) ∧ Ext W w' := fun W hW => by
    have := first19e (hr.ext hW)
    simpa using this
  have hol : ∀ W, Ext w W → Calls Try.prog 43 #[logV L] W fun e w' => e = .returned (.tuple #[.int .u64 0, .bool false]) ∧ Ext W w' := fun W hW => by
    obtain ⟨ring, hl, -⟩ := hl.ext hW
    refine (oldest_any hl).mono ?_
    rintro e w' ⟨rfl, q, rfl⟩
    refine ⟨?_, (Ext.refl W).drewN q⟩
    simp [oldV]
  have hne : ∀ W, Ext w W → Calls Try.prog 32 #[logV L] W fun e w' => e = .returned (.tuple #[.int .u64 0, .bool false]) ∧ W = w' := fun W hW => by
    obtain ⟨ring, hl, -⟩ := hl.ext hW
    refine (newest_any hl).mono ?_
    rintro e w' ⟨rfl, rfl⟩
    refine ⟨?_, rfl⟩
    simp
  have hln : ∀ W, Ext w W → Calls Try.prog 30 #[logV L] W fun e w' => e = .returned (.int .i64 0) ∧ W = w' := fun W hW => by
    obtain ⟨ring, hl, -⟩ := hl.ext hW
    have := len_any hl
    simpa using this
  have HFI := Lib.hid hfi
  have HOL := Lib.hid hol
  have HNE := Lib.hid hne
  have HLN := Lib.hid hln
  have HLW := Lib.hid (show LogAt w L R keep f (([] : List (Option Addr)).map Value.pointer) from hl)
  have HRW := Lib.hid hr
  have HTW := Lib.hid hT
  clear hfi hol hne hln hl hr hT
  refine (callsIn_wide (n := 6)).1 ?_
  refine callsIn_of_wp_marks Try.func46 rfl trivial ?_ rfl
  simp only [Try.ntmps46, List.size_toArray, List.length_cons, List.length_nil, Nat.reduceAdd, Nat.reduceSub, Array.replicate_succ, Array.replicate_zero, List.push_toArray, List.append_toArray, List.nil_append, List.cons_append]
  gi_wp2_with fail
  have hx0 : Ext w (((w.alloc (.cells #[.pointer (some ⟨P, 0, none⟩)] 63)).alloc (.cells #[.slice (some ⟨T, 0, none⟩) 5 5] 31)).alloc (.cells #[.bool false] 4)) := (((Ext.refl w).alloc _ _).alloc _ _).alloc _ _
  obtain ⟨b1, b2, b3⟩ : Blk (((w.alloc (.cells #[.pointer (some ⟨P, 0, none⟩)] 63)).alloc (.cells #[.slice (some ⟨T, 0, none⟩) 5 5] 31)).alloc (.cells #[.bool false] 4)) w.heap.size 63 #[.pointer (some ⟨P, 0, none⟩)] ∧
      Blk (((w.alloc (.cells #[.pointer (some ⟨P, 0, none⟩)] 63)).alloc (.cells #[.slice (some ⟨T, 0, none⟩) 5 5] 31)).alloc (.cells #[.bool false] 4)) (w.heap.size + 1) 31 #[.slice (some ⟨T, 0, none⟩) 5 5] ∧
      Blk (((w.alloc (.cells #[.pointer (some ⟨P, 0, none⟩)] 63)).alloc (.cells #[.slice (some ⟨T, 0, none⟩) 5 5] 31)).alloc (.cells #[.bool false] 4)) (w.heap.size + 1 + 1) 4 #[.bool false] := by
    refine ⟨((Blk.new w _ _).alloc _).alloc _, ?_, ?_⟩
    · have := (Blk.new (w.alloc (.cells #[.pointer (some ⟨P, 0, none⟩)] 63)) 31 #[.slice (some ⟨T, 0, none⟩) 5 5]).alloc (.cells #[.bool false] 4)
      rwa [World.size_alloc] at this
    · have := Blk.new ((w.alloc (.cells #[.pointer (some ⟨P, 0, none⟩)] 63)).alloc (.cells #[.slice (some ⟨T, 0, none⟩) 5 5] 31)) 4 #[.bool false]
      rwa [World.size_alloc, World.size_alloc] at this
  generalize ((w.alloc (.cells #[.pointer (some ⟨P, 0, none⟩)] 63)).alloc (.cells #[.slice (some ⟨T, 0, none⟩) 5 5] 31)).alloc (.cells #[.bool false] 4) = w0 at *
  have HX0 := Lib.hid hx0
  have HB1 := Lib.hid b1
  have HB2 := Lib.hid b2
  have HB3 := Lib.hid b3
  clear hx0 b1 b2 b3
  refine ⟨trivial, ?_⟩
  refine (callsIn_wide.2 (HFI.out w0 HX0.out)).mono ?_
  rintro e w1 ⟨rfl, hx1⟩
  have HX1 := Lib.hid (HX0.out.trans hx1)
  have HC1 := Lib.hid (HB1.out.ext hx1)
  have HC2 := Lib.hid (HB2.out.ext hx1)
  have HC3 := Lib.hid (HB3.out.ext hx1)
  clear hx1 HX0 HB1 HB2 HB3
  gi_wp2_with fail
  refine ⟨trivial, ?_⟩
  refine (callsIn_wide.2 (HOL.out w1 HX1.out)).mono ?_
  rintro e w2 ⟨rfl, hx2⟩
  have HX2 := Lib.hid (HX1.out.trans hx2)
  have HD1 := Lib.hid (HC1.out.ext hx2)
  have HD2 := Lib.hid (HC2.out.ext hx2)
  have HD3 := Lib.hid (HC3.out.ext hx2)
  clear hx2 HX1 HC1 HC2 HC3
  gi_wp2_with fail
  refine ⟨trivial, ?_⟩
  refine (callsIn_wide.2 (HNE.out w2 HX2.out)).mono ?_
  rintro e w3 ⟨rfl, rfl⟩
  gi_wp2_with fail
  have hr2 := HRW.out.ext HX2.out
  have z0 := HD1.out.cell 0
  have l0 := HD1.out.lt
  obtain ⟨-, p1, -⟩ := hr2.blk.c3
  have hlen : ∀ W, (∃ q, W = w2.drewN q) → Calls Try.prog 30 #[logV L] W fun e w' => e = .returned (.int .i64 0) ∧ W = w' := fun W hW => by
    obtain ⟨q, rfl⟩ := hW
    exact HLN.out _ (HX2.out.drewN q)
  have HLEN := Lib.hid hlen
  clear hr2 hlen
  rw [List.length_nil] at p1
  refine wpIn_wide.2 ?_
  go_quiet ((go_at_call 30; refine (HLEN.out _ ⟨_, rfl⟩).mono ?_; rintro e w' ⟨rfl, rfl⟩; first | exact ⟨rfl, _, rfl⟩ | exact ⟨rfl, 0, rfl⟩))
  have HX4 := Lib.hid (HX2.out.drewN nq)
  have HE1 := Lib.hid (show Blk (w2.drewN nq) _ _ _ from HD1.out)
  have HE2 := Lib.hid (show Blk (w2.drewN nq) _ _ _ from HD2.out)
  have HE3 := Lib.hid (show Blk (w2.drewN nq) _ _ _ from HD3.out)
  clear z0 p1 HD1 HD2 HD3 HX2 l0
  generalize w2.drewN nq = W4 at *
  gi_wp2_with fail
  refine wpIn_wide.2 ?_
  go_quiet (fail)
  gi_wp2_with fail
  have HX5 := Lib.hid (HX4.out.drewN nq)
  have HG1 := Lib.hid (show Blk (W4.drewN nq) _ _ _ from HE1.out)
  have HG2 := Lib.hid (show Blk (W4.drewN nq) _ _ _ from HE2.out)
  have HG3 := Lib.hid (show Blk (W4.drewN nq) _ _ _ from HE3.out)
  clear HE1 HE2 HE3 HX4
  generalize W4.drewN nq = w4 at *
  refine ⟨trivial, ?_⟩
  refine (callsIn_wide.2 (all_value w4 _)).mono ?_
  rintro e w5 ⟨rfl, rfl⟩
  have hx6 : Ext w4 (w4.alloc (.cells #[logV L] 23)) := (Ext.refl w4).alloc _ _
  have HBB := Lib.hid (Blk.new w4 23 #[logV L])
  have HX6 := Lib.hid (HX5.out.trans hx6)
  have HI1 := Lib.hid (HG1.out.ext hx6)
  have HI2 := Lib.hid (HG2.out.ext hx6)
  have HI3 := Lib.hid (HG3.out.ext hx6)
  generalize w4.alloc (.cells #[logV L] 23) = w5 at *
  clear hx6 HG1 HG2 HG3 HX5
  have hnf := fun W => eql_func_nil (P := Try.prog) W (.func 96) #[] #[.pointer (some ⟨w4.heap.size, 0, none⟩)] Try.underlying59
  have HST := Lib.hid (all_log (HLW.out.ext HX6.out) (fun q hq => by cases hq) w4.heap.size (HBB.out.cell 0) HBB.out.lt (6 - 1) (by decide))
  have hB0 : Below w5.heap.size w5 (w5.alloc (.cells #[.int .i64 0] 3)) := (Below.refl _ _).alloc (Nat.le_refl _) _
  have hS := Blk.new w5 3 #[.int .i64 0]
  have HS := Lib.hid hS
  have HB0 := Lib.hid hB0
  have H00 := Lib.hid (show SameI w5 0 [] (w5.alloc (.cells #[.int .i64 0] 3)) from ⟨⟨by rw [hS.cell 0]; simp, hS.frozen 0⟩, hB0⟩)
  clear hB0 hS
  gi_wp2_with fail
  refine wpIn_range_boxed rfl (by decide) (gf := 96) (lb := #[.pointer (some ⟨w4.heap.size, 0, none⟩)]) rfl trivial (enters_of Try.func96 (by kernel_rfl) rfl)
    HST.out belowK_t (belowK_b (by simp)) HB0.out (fun _ => rfl)
    (SameI w5 0) (fun _ _ _ => False) (SameI.own (by simp)) (fun c s A C row hs hg hr => hs) H00.out
    30 (fun p => .pointer p.1.2) (fun tm p Bx => (((tm.setIfInBounds 99 (.int .u64 p.1.1)).setIfInBounds 100 (.agg #[.pointer p.1.2])).setIfInBounds 14 (.int .u64 p.1.1)).setIfInBounds 15 (.pointer (some ⟨Bx, 0, none⟩)))
    ?assign ?body ?done ?stop
  case assign =>
    rintro l pre p W K hI hK
    have HI := Lib.hid hI
    have HK := Lib.hid hK
    have hs5 := hI.2.size
    have HAL := Lib.hid (show Ext W (W.alloc (.cells #[.pointer p.1.2] 30)) from (Ext.refl W).alloc _ _)
    have HBN := Lib.hid (Blk.new W 30 #[.pointer p.1.2])
    have hlS : w5.heap.size < W.heap.size := by
      have hc := hI.1.1
      rcases Nat.lt_or_ge w5.heap.size W.heap.size with h | h
      · exact h
      · rw [World.cell?, Array.getElem?_eq_none h] at hc; cases hc
    clear hI hK
    gi_wp2_with fail
    refine HK.out W.heap.size _ (by simp; omega) (HAL.out.others.from _) (HAL.out.below.mono (by omega)) ⟨⟨(HAL.out.cell (by omega)).trans HI.out.1.1, (HAL.out.frozen (by omega)).trans HI.out.1.2⟩, HI.out.2.trans (HAL.out.below.mono (by omega))⟩ HBN.out
  case body =>
    rintro l pre p Bx W hBx hbx hI hlen
    exact absurd hlen (by simp)
  case done =>
    rintro D ys W hD hys hI hK
    obtain ⟨⟨hci, hfi⟩, hbel⟩ := hI
    have hyl : ys = [] := by simpa [toldL] using hys
    rw [hyl] at hci
    have hci : W.cell? ⟨w5.heap.size, 0, none⟩ = some (.int .i64 0) := by simpa using hci
    clear hys hyl
    have hr5 := (HRW.out.ext HX6.out).below hbel
    obtain ⟨-, p1, p2⟩ := hr5.blk.c3
    rw [List.length_nil] at p1
    have lP := hr5.blk.lt
    have hag5 : Agree (Lt w5.heap.size) w5 W := Agree.of_below hbel fun _ h => h
    have z4 : W.cell? ⟨w.heap.size, 0, none⟩ = some (.pointer (some ⟨P, 0, none⟩)) := (HI1.out.agree hag5 HI1.out.lt).cell 0
    have z6 := HI3.out.agree hag5 HI3.out.lt
    have c6 : W.cell? ⟨w.heap.size + 1 + 1, 0, none⟩ = some (.bool false) := z6.cell 0
    have f6 := z6.frozen 0
    have l6 := z6.lt
    have HZ6 := Lib.hid z6
    have HCI := Lib.hid hci
    have HFI := Lib.hid hfi
    have HBEL := Lib.hid hbel
    have HK := Lib.hid hK
    clear hfi hbel hK hr5 p2 hag5 z6
    gi_wp2_with fail
    refine wpIn_wide.2 ?_
    go_region
    gi_wp2_with fail
    have hKD : (W.setCell ⟨w.heap.size + 1 + 1, 0, none⟩ (.bool true)).drew.heap[D]? = some (.deferred (some [])) := (Below.heap_setCell W ⟨w.heap.size + 1 + 1, 0, none⟩ (.bool true) D (by have h7 := HZ6.out.lt; have h8 := HX6.out.size; have h9 := HI3.out.lt; rw [World.size_alloc] at hD; show D ≠ w.heap.size + 1 + 1; omega)).trans HK.out
    refine ⟨by simp, .inl ⟨_, _, rfl, run_takeDeferred hKD, ?_⟩⟩
    have hc7 : (W.setCell ⟨w.heap.size + 1 + 1, 0, none⟩ (.bool true)).drew.cell? ⟨w.heap.size + 1 + 1, 0, none⟩ = some (.bool true) := World.cell?_setCell_same W _ _ (HZ6.out.cell 0)
    have hc8 := cell_kept hc7 (grownBy_putObj' _ D (.deferred none)) (fun r e => by cases e; exact ⟨_, hKD, rfl⟩)
    have hb6 : Below w.heap.size w (W.setCell ⟨w.heap.size + 1 + 1, 0, none⟩ (.bool true)).drew := by
      have hq := (HX6.out.below.trans (HBEL.out.mono HX6.out.size)).setCell (p := ⟨w.heap.size + 1 + 1, 0, none⟩) (by show w.heap.size ≤ w.heap.size + 1 + 1; omega) (.bool true)
      exact ⟨hq.os, hq.tape, hq.output, hq.size, hq.block⟩
    have hb8 := hb6.trans (belowK_b (w := w) (Nat.le_refl _) _ D _ (.deferred none) (by have := HX6.out.size; rw [World.size_alloc] at hD; omega) hKD rfl rfl)
    refine ⟨.bool true, ?_, rfl, hb8⟩
    simp [results, Try.results46, go_sem, hc8]
  case stop =>
    rintro D c pre W hD hSp hI hK
    exact hI.elim
end Go.Proofs.Ytpapoalgocmlaaa
namespace Go.Proofs.Ytpapoalgocmlaaa
open Go.RowKit
set_option linter.unusedVariables false
set_option linter.unusedSimpArgs false
def PutLB (L R n newest count : Nat) (ring : List Value) (v : Nat) (t : Value) (w : World) (e : Ending) (w' : World) : Prop := PutL L R n newest count ring v t w e w' ∧ Below 0 w w'
theorem put_endB {w W1 : World} {L R n newest count : Nat} {ring : List Value} (h : IsL w L R n newest count ring) (hx : Ext w W1) {v p : Nat} {q : Value} (hpm : v % n = p) (hv : v ≤ 4611686018427387903) (hcv : 0 < count → newest < v ∧ v ≤ newest + 1) (hq : ∃ a, q = .pointer a) {m : Int} (hm : m = ((min (count + 1) n : Nat) : Int)) :
    PutLB L R n newest count ring v q w (.returned (.int .i64 0)) (((W1.setCell ⟨R, p, none⟩ q).setCell ⟨L, 1, none⟩ (.int .u64 v)).setCell ⟨L, 2, none⟩ (.int .i64 m)).drew.drew :=
  ⟨put_end h hx hpm hv hcv hq hm, (((((hx.below.mono (Nat.zero_le _)).setCell (p := ⟨R, p, none⟩) (Nat.zero_le _) q).setCell (p := ⟨L, 1, none⟩) (Nat.zero_le _) (.int .u64 v)).setCell (p := ⟨L, 2, none⟩) (Nat.zero_le _) (.int .i64 m)).drew).drew⟩
set_option maxRecDepth 100000 in
set_option maxHeartbeats 800000 in
theorem put_okB {w : World} {L R n newest count : Nat} {ring : List Value} (h : IsL w L R n newest count ring) (v : Nat) (hv : v < 18446744073709551616) (q : Option Addr) (hc : putCode newest count v = 0) :
    Calls Try.prog 29 #[logV L, .int .u64 v, .agg #[.pointer q]] w (PutLB L R n newest count ring v (.pointer q) w) := by
  obtain ⟨cp, hcp, hcm, c0, c1, c2⟩ := h.c3
  have hL := h.ltL
  have hR := h.ltR
  have hp := h.pos
  have hnum := h.num
  have hnz : ((n : Int) == 0) = false := beq_eq_false_iff_ne.2 (by omega)
  have hvM : v ≤ 4611686018427387903 := by
    unfold putCode at hc; split at hc
    · cases hc
    · omega
  have hd : ¬ (4611686018427387903 : Int) < (v : Int) := by omega
  have hd' : decide ((4611686018427387903 : Int) < (v : Int)) = false := decide_eq_false hd
  have hcv : 0 < count → newest < v ∧ v ≤ newest + 1 := fun h0 => by
    unfold putCode at hc
    rw [if_neg (by omega)] at hc
    split at hc
    · cases hc
    · split at hc
      · cases hc
      · omega
  obtain ⟨p, hpm⟩ : ∃ p, v % n = p := ⟨_, rfl⟩
  have hpn : p < n := by rw [← hpm]; exact Nat.mod_lt _ hp
  have hpl : ∀ W, IsL W L R n newest count ring → Calls Try.prog 90 #[logV L, .int .u64 v] W fun e w' => e = .returned (.int .i64 p) ∧ W = w' := fun W hW => by
    have := place_log hW v hv
    rwa [hpm] at this
  have hpn' : (p : Int) < (n : Int) := by omega
  have hrc : ∃ x, w.cell? ⟨R, p, none⟩ = some x := ⟨_, h.at_ (List.getElem?_eq_getElem (by rw [h.len]; exact hpn))⟩
  obtain ⟨x, hrc⟩ := hrc
  have fR : ∀ o, w.frozen? ⟨R, o, none⟩ = false := fun o => h.fzR o
  have fL : ∀ o, w.frozen? ⟨L, o, none⟩ = false := fun o => h.fzL o
  have hne1 : ¬ L = R := h.ne
  have hne2 : ¬ R = L := fun e => h.ne e.symm
  have hsm := h.small
  have hfew := h.few
  have HPL := Lib.hid hpl
  have HH := Lib.hid h
  have HPM := Lib.hid hpm
  have HCV := Lib.hid hcv
  have hw2 : IntKind.i64.wrap ((count : Int) + 1) = (count : Int) + 1 := by rw [IntKind.wrap_i64]; omega
  clear h hpl hpm hcv hc
  by_cases h0 : count = 0
  · subst h0
    go_enter Try.func29, Try.ntmps29
    go_wp2_with fail
    have hx1 : Ext w (w.alloc (.cells #[.pointer q] 30)) := (Ext.refl w).alloc _ _
    have hb1 := Blk.new w 30 #[.pointer q]
    generalize w.alloc (.cells #[.pointer q] 30) = W1 at *
    have hc0 := (hx1.cell (o := 0) hL).trans c0
    have hc1 := (hx1.cell (o := 1) hL).trans c1
    have hc2 := (hx1.cell (o := 2) hL).trans c2
    have hcr := (hx1.cell (o := p) hR).trans hrc
    have gR : ∀ o, W1.frozen? ⟨R, o, none⟩ = false := fun o => (hx1.frozen hR).trans (fR o)
    have gL : ∀ o, W1.frozen? ⟨L, o, none⟩ = false := fun o => (hx1.frozen hL).trans (fL o)
    have hN1 : ¬ R = w.heap.size := by omega
    have hN2 : ¬ L = w.heap.size := by omega
    have hN3 := hb1.lt
    have hcb : W1.cell? ⟨w.heap.size, 0, none⟩ = some (.pointer q) := hb1.cell 0
    have HX1 := Lib.hid hx1
    have HL1 := Lib.hid (HH.out.ext hx1)
    clear hx1 hb1 c0 c1 c2 hrc fR fL
    go_region_held3 (fun w' => w'.cell? ⟨L, 0, none⟩ = some (.slice (some ⟨R, 0, none⟩) n cp) ∧ w'.cell? ⟨w.heap.size, 0, none⟩ = some (.pointer q)) (go_keep)
      ((go_at_call 90; refine (HPL.out _ (HL1.out.ext (Ext.refl W1).drew)).mono ?_; rintro e w1 ⟨rfl, rfl⟩))
    go_wp2_with fail
    go_region
    go_wp2_with fail
    go_ret
    exact put_endB HH.out HX1.out HPM.out hvM HCV.out ⟨q, rfl⟩ (by have := Nat.min_eq_left (show 0 + 1 ≤ n by omega); rw [this]; rfl)
  · have e1 : decide ((0 : Int) < (count : Int)) = true := by simp; omega
    have e5 : (newest : Int) < (v : Int) := by have := HCV.out (by omega); omega
    have e2 : decide ((v : Int) ≤ (newest : Int)) = false := by simp; omega
    have e3 : IntKind.u64.wrap ((newest : Int) + 1) = (newest : Int) + 1 := by rw [IntKind.wrap_u64]; omega
    have e6 : (v : Int) ≤ (newest : Int) + 1 := by have := HCV.out (by omega); omega
    have e4 : decide ((newest : Int) + 1 < (v : Int)) = false := by have := HCV.out (by omega); simp; omega
    go_enter Try.func29, Try.ntmps29
    go_wp2_with fail
    have hx1 : Ext w (w.alloc (.cells #[.pointer q] 30)) := (Ext.refl w).alloc _ _
    have hb1 := Blk.new w 30 #[.pointer q]
    generalize w.alloc (.cells #[.pointer q] 30) = W1 at *
    have hc0 := (hx1.cell (o := 0) hL).trans c0
    have hc1 := (hx1.cell (o := 1) hL).trans c1
    have hc2 := (hx1.cell (o := 2) hL).trans c2
    have hcr := (hx1.cell (o := p) hR).trans hrc
    have gR : ∀ o, W1.frozen? ⟨R, o, none⟩ = false := fun o => (hx1.frozen hR).trans (fR o)
    have gL : ∀ o, W1.frozen? ⟨L, o, none⟩ = false := fun o => (hx1.frozen hL).trans (fL o)
    have hN1 : ¬ R = w.heap.size := by omega
    have hN2 : ¬ L = w.heap.size := by omega
    have hN3 := hb1.lt
    have hcb : W1.cell? ⟨w.heap.size, 0, none⟩ = some (.pointer q) := hb1.cell 0
    have HX1 := Lib.hid hx1
    have HL1 := Lib.hid (HH.out.ext hx1)
    clear hx1 hb1 c0 c1 c2 hrc fR fL
    go_region_held3 (fun w' => w'.cell? ⟨L, 0, none⟩ = some (.slice (some ⟨R, 0, none⟩) n cp) ∧ w'.cell? ⟨w.heap.size, 0, none⟩ = some (.pointer q)) (go_keep)
      ((go_at_call 90; refine (HPL.out _ (HL1.out.ext (Ext.refl W1).drew)).mono ?_; rintro e w1 ⟨rfl, rfl⟩))
    go_wp2_with fail
    go_region
    go_wp2_with fail
    all_goals
      go_ret
      exact put_endB HH.out HX1.out HPM.out hvM HCV.out ⟨q, rfl⟩ (by rw [Nat.min_def]; split <;> omega)
theorem put_logB {w : World} {L R keep f : Nat} {xs : List Value} (h : LogAt w L R keep f xs) (v : Nat) (hv : v = f + xs.length) (hm : v ≤ 4611686018427387903) (q : Option Addr) :
    Calls Try.prog 29 #[logV L, .int .u64 v, .agg #[.pointer q]] w fun e w' => PutN L R keep f xs (.pointer q) w e w' ∧ Below 0 w w' := by
  obtain ⟨ring, hl, hh⟩ := h
  have hp := hl.pos
  refine (put_okB hl v (by omega) q ?_).mono ?_
  · unfold putCode lastV
    rw [if_neg (by omega)]
    by_cases h0 : xs.length = 0
    · rw [h0]; simp
    · rw [if_neg h0, if_neg (by omega), if_neg (by omega)]
  · rintro e w' ⟨⟨rfl, h2, h3, h4, h5⟩, hb0⟩
    refine ⟨⟨rfl, ⟨ring.set (v % keep) (.pointer q), ?_, ?_⟩, h3, h4, h5⟩, hb0⟩
    · have e1 : lastV f (xs ++ [Value.pointer q]) = v := by unfold lastV; rw [if_neg (by simp), List.length_append]; simp only [List.length_cons, List.length_nil]; omega
      have e2 : min (xs ++ [Value.pointer q]).length keep = min (min xs.length keep + 1) keep := by rw [List.length_append]; simp only [List.length_cons, List.length_nil]; omega
      rw [e1, e2]
      exact h2
    · subst hv
      exact hh.put hl.len hp _
end Go.Proofs.Ytpapoalgocmlaaa
namespace Go.Proofs.Ytpapoalgocmlaaa
open Go.RowKit
set_option linter.unusedVariables false
set_option linter.unusedSimpArgs false
theorem RefL.anew {w : World} {P keep f : Nat} {sv sn : Sl} (h : RefL w P keep f [] sv sn) (f' : Nat) (hf : f' ≤ 4611686018427387904) : RefL w P keep f' [] sv sn :=
  ⟨h.blk, by simpa [verV] using h.rv, h.rn, h.few, by simp; omega, h.keep1⟩
theorem LogAt.anew {w : World} {L R keep f : Nat} (h : LogAt w L R keep f []) (f' : Nat) : LogAt w L R keep f' [] := by
  obtain ⟨r, h1, -⟩ := h
  exact LogAt.nil (by simpa [lastV] using h1)
set_option maxRecDepth 100000 in
set_option maxHeartbeats 1600000 in
theorem put19_bad {w : World} {P keep f : Nat} {ns : List Nat} {sv sn : Sl} (h : RefL w P keep f ns sv sn) (v k : Nat) (hv : v < 18446744073709551616) (hc : putCode (if ns.length = 0 then 0 else f + ns.length - 1) ns.length v ≠ 0) :
    Calls Try.prog 41 #[.pointer (some ⟨P, 0, none⟩), .int .u64 v, .int .i64 k] w fun e w' => e = .returned (.int .i64 (putCode (if ns.length = 0 then 0 else f + ns.length - 1) ns.length v)) ∧ Ext w w' := by
  obtain ⟨c0, c1, c2⟩ := h.blk.c3
  have hrv := h.rv
  have hsm := h.small
  have hfew := h.few
  clear h
  obtain ⟨m, hm⟩ : ∃ m, ns.length = m := ⟨_, rfl⟩
  rw [hm] at c1 hrv hsm hfew hc ⊢
  clear hm c2
  unfold putCode at hc ⊢
  by_cases h1 : 4611686018427387903 < v
  · rw [if_pos h1]
    have g1 : decide ((4611686018427387903 : Int) < (v : Int)) = true := decide_eq_true (by omega)
    have g1' : (4611686018427387903 : Int) < (v : Int) := by omega
    clear hc
    go_enter Try.func41, Try.ntmps41
    go_wp2_with fail
    go_ret
    exact ⟨rfl, Ext.refl w⟩
  rw [if_neg h1] at hc ⊢
  have g1 : decide ((4611686018427387903 : Int) < (v : Int)) = false := decide_eq_false (by omega)
  have g1' : ¬ (4611686018427387903 : Int) < (v : Int) := by omega
  by_cases h0 : m = 0
  · subst h0; simp at hc
  rw [if_neg h0] at hc ⊢
  have m0 : decide (0 < (m : Int)) = true := decide_eq_true (by omega)
  have m0' : 0 < (m : Int) := by omega
  obtain ⟨l, hl⟩ : ∃ l, m - 1 = l := ⟨_, rfl⟩
  obtain ⟨b, o, hsl, -, hcl⟩ := id hrv
  obtain ⟨ha, hc1, hc2⟩ := hsl.eq (by omega)
  have clast := hcl l _ (verV_at (by omega))
  obtain ⟨z, hz⟩ : ∃ z, f + l = z := ⟨_, rfl⟩
  rw [hz] at clast
  rw [show f + m - 1 = z from by omega] at hc ⊢
  have hlm : (l : Int) < (m : Int) := by omega
  have hwl : IntKind.i64.wrap ((m : Int) - 1) = (l : Int) := by rw [IntKind.wrap_i64]; omega
  have hwz : IntKind.u64.wrap ((z : Int) + 1) = (z : Int) + 1 := by rw [IntKind.wrap_u64]; omega
  rw [ha] at c1
  have hmp : 0 < m := by omega
  have HH0 := Lib.hid h0
  clear hsl hcl ha hrv hl hz h0 hc1 hc2
  by_cases h2 : v ≤ z
  · rw [if_pos ⟨hmp, h2⟩]
    have g2 : decide ((v : Int) ≤ (z : Int)) = true := decide_eq_true (by omega)
    have g2' : (v : Int) ≤ (z : Int) := by omega
    clear hc
    go_enter Try.func41, Try.ntmps41
    go_wp2_with fail
    go_quiet (fail)
    go_wp2_with fail
    go_ret
    exact ⟨rfl, (Ext.refl w).drewN _⟩
  · rw [if_neg (by omega)] at hc ⊢
    by_cases h3 : z + 1 < v
    · rw [if_pos ⟨hmp, h3⟩]
      have g2 : decide ((v : Int) ≤ (z : Int)) = false := decide_eq_false (by omega)
      have g2' : ¬ (v : Int) ≤ (z : Int) := by omega
      have g3 : decide ((z : Int) + 1 < (v : Int)) = true := decide_eq_true (by omega)
      have g3' : (z : Int) + 1 < (v : Int) := by omega
      clear hc
      go_enter Try.func41, Try.ntmps41
      go_wp2_with fail
      go_quiet (fail)
      go_wp2_with fail
      go_ret
      exact ⟨rfl, (Ext.refl w).drewN _⟩
    · rw [if_neg (by omega)] at hc; exact absurd rfl hc
end Go.Proofs.Ytpapoalgocmlaaa
namespace Go.Proofs.Ytpapoalgocmlaaa
open Go.RowKit
set_option linter.unusedVariables false
set_option linter.unusedSimpArgs false
theorem Try.infoTree2 : (Try.prog.info? 30).map (fun i => (i.zero, i.size, i.bytes)) = some (some (.agg #[.pointer none]), 1, 8) := Try.infoTree
set_option maxRecDepth 100000 in
set_option maxHeartbeats 400000 in
theorem clone_trees {w : World} {F : Nat → Prop} {s : Sl} {n : Nat} {cs : List Value} (hr : Rd w F 1 s n cs) (h1 : ∀ u ∈ cs, u.oneCell' = true) (hn : n ≤ 2000) :
    Calls Try.prog 99 #[.slice s.a n s.c] w (ClonePost 30 n cs w) := by
  obtain ⟨i0, hi, hz0, hz1, hz2⟩ := info_parts Try.infoTree2
  obtain ⟨b, o, hs, hl, hc⟩ := hr
  cases hs with
  | nil =>
    have : cs = [] := List.eq_nil_of_length_eq_zero (by simpa using hl)
    subst this
    have he := fun w' => Lib.run_eql_slice_nil (P := Try.prog) w' 31 30 none 0 0 0 0 Try.underlying31
    go_enter Try.func99, Try.ntmps99
    go_wp2_with fail
    go_ret
    exact ⟨Sl.none, rfl, World.ownsRow_nil _ _ _ _, Ext.refl _⟩
  | zero ad =>
    have : cs = [] := List.eq_nil_of_length_eq_zero (by simpa using hl)
    subst this
    have he := fun w' => Lib.run_eql_slice_nil (P := Try.prog) w' 31 30 (some ad) 0 0 0 0 Try.underlying31
    have hsrc : Rd (w.alloc (.cells #[] 30)) F 1 ⟨some ad, 0⟩ 0 [] := ⟨b, o, .zero _ _ _, rfl, fun j u hj => by simp at hj⟩
    have HN := Lib.hid hsrc
    have h63 : 0 + 0 ≤ maxLen := by unfold maxLen; omega
    clear hsrc hc h1 hl
    go_enter Try.func99, Try.ntmps99
    go_wp2_with (at_builtin; refine wpList_append_x _ rfl _ _ 31 rfl w.heap.size 30 i0 (.agg #[.pointer none]) 1 8 Try.underlying31 hi hz0 hz1 hz2 rfl (by decide) ⟨some ⟨w.heap.size, 0, none⟩, 0⟩ 0 [] rfl (World.ownsRow_made w #[] 0 (Nat.le_refl _) (by decide) rfl) F ⟨some ad, 0⟩ 0 [] rfl HN.out (by simp) h63 (by omega) (by simp) ?_; intro s' w1 hown hwr _; simp only [Nat.zero_add, List.nil_append] at hown)
    go_ret
    exact ⟨s', by simp, hown, ((Ext.refl w).alloc _ _).wr hwr (by rintro i ⟨⟩; exact Nat.le_refl _)⟩
  | some _ c _ _ hnc hcm hb =>
    have he := fun w' => Lib.run_eql_slice_nil (P := Try.prog) w' 31 30 (some ⟨b, o, none⟩) n c 0 0 Try.underlying31
    have hlt : ∀ j u, cs[j]? = some u → b < w.heap.size := fun j u hj => World.block_lt_of_cell? w _ (hc j u hj)
    have hsrc : Rd (w.alloc (.cells #[] 30)) F 1 ⟨some ⟨b, o, none⟩, c⟩ n cs := ⟨b, o, .some _ _ _ _ hnc hcm hb, hl, fun j u hj => (World.cell?_alloc_lt _ _ _ (hlt j u hj)).trans (hc j u hj)⟩
    have HN := Lib.hid hsrc
    have H1 := Lib.hid h1
    have h63 : 0 + n ≤ maxLen := by unfold maxLen; omega
    clear hsrc hc h1 hl hlt
    go_enter Try.func99, Try.ntmps99
    go_wp2_with (at_builtin; refine wpList_append_x _ rfl _ _ 31 rfl w.heap.size 30 i0 (.agg #[.pointer none]) 1 8 Try.underlying31 hi hz0 hz1 hz2 rfl (by decide) ⟨some ⟨w.heap.size, 0, none⟩, 0⟩ 0 [] rfl (World.ownsRow_made w #[] 0 (Nat.le_refl _) (by decide) rfl) F ⟨some ⟨b, o, none⟩, c⟩ n cs rfl HN.out H1.out h63 (by omega) (by simp) ?_; intro s' w1 hown hwr _; simp only [Nat.zero_add, List.nil_append] at hown)
    go_ret
    exact ⟨s', by simp, hown, ((Ext.refl w).alloc _ _).wr hwr (by rintro i ⟨⟩; exact Nat.le_refl _)⟩
theorem own_blk {w : World} {base e n : Nat} {s : Sl} {xs : List Value} (h : w.ownsRow base e 1 (.slice s.a n s.c) n xs) (hn : 1 ≤ n) : ∃ g ex, s.a = some ⟨g, 0, none⟩ ∧ base ≤ g ∧ n ≤ s.c ∧ s.c ≤ maxLen ∧ Blk w g e (xs ++ ex).toArray := by
  obtain ⟨-, ⟨-, h0⟩ | ⟨g, cap, cur, hv, hg, hb, h1, h2, -, h4⟩⟩ := h
  · omega
  · simp only [Value.slice.injEq] at hv
    obtain ⟨ha, -, hc⟩ := hv
    refine ⟨g, cur.toList.drop (n * 1), ha, hg, by omega, by omega, ?_⟩
    rw [← h4, List.take_append_drop]
    exact hb
def CopyLPost (n newest count : Nat) (ring : List Value) (w : World) (e : Ending) (w' : World) : Prop :=
  ∃ L R, e = .returned (logV L) ∧ IsL w' L R n newest count ring ∧ w.heap.size ≤ L ∧ w.heap.size ≤ R ∧ Ext w w'
set_option maxRecDepth 100000 in
set_option maxHeartbeats 1000000 in
theorem copy_log {w : World} {L R n newest count : Nat} {ring : List Value} (h : IsL w L R n newest count ring) : Calls Try.prog 45 #[logV L] w (CopyLPost n newest count ring w) := by
  obtain ⟨c, ex, hnc, hcm, hbL, hbR⟩ := h.mem
  obtain ⟨c0, c1, c2⟩ := hbL.c3
  have l0 := hbL.lt
  have hlen := h.len
  have hpos := h.pos
  have hsm := h.small
  have h1 : ∀ u ∈ ring, u.oneCell' = true := fun u hu => by
    obtain ⟨q, rfl⟩ := h.ptr u hu
    rfl
  have hc : ∀ W, Ext w W → Calls Try.prog 99 #[.slice (some ⟨R, 0, none⟩) n c] W (ClonePost 30 n ring W) := fun W hW =>
    clone_trees (s := ⟨some ⟨R, 0, none⟩, c⟩) (F := fun _ => True) ⟨R, 0, .some _ _ _ _ hnc hcm trivial, by omega, fun j u hj => by
      rw [(hbR.ext hW).cell, Nat.zero_add, List.getElem?_toArray, List.getElem?_append_left (List.getElem?_eq_some_iff.1 hj).1]; exact hj⟩ h1 (by omega)
  have HC := Lib.hid hc
  have HH := Lib.hid h
  clear hbL hbR hc h h1 hlen
  go_enter Try.func45, Try.ntmps45
  go_wp2_with fail
  go_region_held3 (fun w' => w'.cell? ⟨L, 0, none⟩ = some (.slice (some ⟨R, 0, none⟩) n c) ∧ w'.cell? ⟨L, 1, none⟩ = some (.int .u64 newest) ∧ w'.cell? ⟨L, 2, none⟩ = some (.int .i64 count)) (go_keep)
    ((go_at_call 99; refine (HC.out _ ((Ext.refl w).drew)).mono ?_; rintro e w1 ⟨s', rfl, hown, hx1⟩; have c0 := (hx1.cell (o := 0) l0).trans c0; have c1 := (hx1.cell (o := 1) l0).trans c1; have c2 := (hx1.cell (o := 2) l0).trans c2))
  go_wp2_with fail
  go_ret
  obtain ⟨g, ex', ha, hg, hn1, hn2, hb⟩ := own_blk hown hpos
  have hx : Ext w w1 := (Ext.refl w).drew.trans hx1
  have hgl := hb.lt
  have hH := HH.out
  refine ⟨w1.heap.size, g, rfl, ⟨⟨s'.c, ex', hn1, hn2, ?_, hb.ext ((Ext.refl w1).alloc _ _)⟩, hH.len, by omega, hpos, hsm, hH.few, hH.num, hH.cnt, hH.ptr⟩, hx.size, hg, hx.alloc _ _⟩
  rw [← ha]
  exact Blk.new _ _ _
end Go.Proofs.Ytpapoalgocmlaaa
namespace Go.Proofs.Ytpapoalgocmlaaa
open Go.RowKit
set_option linter.unusedVariables false
set_option linter.unusedSimpArgs false
set_option maxRecDepth 100000
structure LL where
  kd : Int
  v : Nat
  t : Int
instance : Inhabited LL := ⟨⟨0, 0, 0⟩⟩
structure LCells (w : World) (b o : Nat) (x : LL) : Prop where
  c0 : w.cell? ⟨b, o, none⟩ = some (.int .i64 x.kd)
  c1 : w.cell? ⟨b, o + 1, none⟩ = some (.int .u64 x.v)
  c2 : w.cell? ⟨b, o + 2, none⟩ = some (.int .i64 x.t)
structure LCS (w : World) (F : Nat → Prop) (s : Sl) (xs : List LL) : Prop where
  ex : ∃ b o, SlAt F s xs.length b o ∧ ∀ j x, xs[j]? = some x → LCells w b (o + j * 3) x
  vals : ∀ x ∈ xs, x.v < 18446744073709551616
  few : xs.length * 24 ≤ 140737488355328
theorem LCells.agree {w w' : World} {b o : Nat} {x : LL} (h : LCells w b o x) {F : Nat → Prop} (ha : Agree F w w') (hb : F b) : LCells w' b o x := ⟨(ha.cell hb).trans h.c0, (ha.cell hb).trans h.c1, (ha.cell hb).trans h.c2⟩
theorem LCS.at {w : World} {F : Nat → Prop} {s : Sl} {xs : List LL} (h : LCS w F s xs) {i : Nat} {x : LL} (hx : xs[i]? = some x) :
    ∃ b o, s.a = some ⟨b, o, none⟩ ∧ F b ∧ xs.length ≤ s.c ∧ s.c ≤ maxLen ∧ LCells w b (o + i * 3) x ∧ x.v < 18446744073709551616 := by
  obtain ⟨b, o, h1, h2⟩ := h.ex
  obtain ⟨e1, e2, e3⟩ := h1.eq (lt_length hx)
  exact ⟨b, o, e1, h1.fits (lt_length hx), e2, e3, h2 i x hx, h.vals x (List.mem_of_getElem? hx)⟩
theorem LCS.agree {w w' : World} {F : Nat → Prop} {s : Sl} {xs : List LL} (h : LCS w F s xs) (ha : Agree F w w') : LCS w' F s xs := by
  obtain ⟨⟨b, o, h1, h2⟩, h3, h4⟩ := h
  exact ⟨⟨b, o, h1, fun j x hx => (h2 j x hx).agree ha (h1.fits (lt_length hx))⟩, h3, h4⟩
section
variable {H : Type} {enc : TypeId × Value → H} {w : World} {held : Bool}
theorem cellsOfAct19 : Try.prog.cellsOf 76 = 3 := by kernel_rfl
theorem bytesOfAct19 : Try.prog.bytesOf 76 = 24 := by kernel_rfl
theorem lacts_of_trod {fuel : Nat} {cs : List Value} {x : DataW H × List MemPlace} (h : tr enc Try.prog w held fuel 74 cs = some x) (hw : WOk Try.prog 74 x.1) : ∃ (s : Sl) (xs : List LL), cs = [.slice s.a xs.length s.c] ∧ LCS w (Lt w.heap.size) s xs := by
  obtain ⟨n, len, s, b, o, -, hc, hs, hby, he⟩ := trod_rows (e := 76) (C := 3) (B := 24) Try.underlying74 cellsOfAct19 bytesOfAct19 (by decide) h hw
  have hE : ∀ i, i < len → ∃ a : LL, LCells w b (o + i * 3) a ∧ a.v < 18446744073709551616 := fun i hi => by
    obtain ⟨cs', y, hl8, hc, ht, hw⟩ := he i hi
    obtain ⟨n6, rfl, hl, hf⟩ := trod_fields Try.underlying76 ht hw
    obtain ⟨z0, g0, -⟩ := hf 0 _ rfl
    obtain ⟨z1, g1, -⟩ := hf 1 _ rfl
    obtain ⟨z2, g2, -⟩ := hf 2 _ rfl
    obtain ⟨kd, hkd, -⟩ := trod_i (k := .i64) (by kernel_rfl) g0
    obtain ⟨v, hv, wv⟩ := trod_i (k := .u64) (by kernel_rfl) g1
    obtain ⟨t, ht', -⟩ := trod_i (k := .i64) (by kernel_rfl) g2
    have a0 : cs'[0]? = some (.int .i64 kd) := at_of_take hkd (j := 0) (by decide)
    have a1 : cs'[1]? = some (.int .u64 v) := at_of_take hv (j := 0) (by decide)
    have a2 : cs'[2]? = some (.int .i64 t) := at_of_take ht' (j := 0) (by decide)
    obtain ⟨w1, w2⟩ := u64_nonneg wv
    have e1 : ((v.toNat : Nat) : Int) = v := Int.toNat_of_nonneg w1
    refine ⟨⟨kd, v.toNat, t⟩, ⟨(hc 0 (by decide)).trans a0, ?_, (hc 2 (by decide)).trans a2⟩, by show v.toNat < _; omega⟩
    show _ = some (Value.int .u64 ((v.toNat : Nat) : Int))
    rw [e1]
    exact (hc 1 (by decide)).trans a1
  obtain ⟨f, hf⟩ := skolem hE
  refine ⟨s, (List.range len).map f, by rw [List.length_map, List.length_range]; exact hc, ⟨⟨b, o, by rw [List.length_map, List.length_range]; exact hs, fun j x hj => ?_⟩, fun x hx => ?_, by rw [List.length_map, List.length_range]; omega⟩⟩
  · obtain ⟨h1, rfl⟩ := ofFn_get hj
    exact (hf j h1).1
  · obtain ⟨j, hj⟩ := List.getElem?_of_mem hx
    obtain ⟨h1, rfl⟩ := ofFn_get hj
    exact (hf j h1).2
end
end Go.Proofs.Ytpapoalgocmlaaa
namespace Go.Proofs.Ytpapoalgocmlaaa
open Go.RowKit
set_option linter.unusedVariables false
set_option linter.unusedSimpArgs false
theorem rootP_in {a b c d k : Nat} {x : Addr} (h : rootP a b c d k = some x) : x.block = a ∨ x.block = b ∨ x.block = c ∨ x.block = d := by
  match k, h with
  | 1, h => cases h; exact .inl rfl
  | 2, h => cases h; exact .inr (.inl rfl)
  | 3, h => cases h; exact .inr (.inr (.inl rfl))
  | 4, h => cases h; exact .inr (.inr (.inr rfl))
structure TreesAt (w : World) (T a b c d s1 s2 : Nat) : Prop where
  row : Blk w T 30 (rowT a b c d).toArray
  ab : a < b
  bc : b < c
  cd : c < d
  lo : s1 ≤ a
  loT : s1 ≤ T
  hi : d < s2
  hiT : T < s2
  leads : ∀ k, k < 5 → Leads w (rootP a b c d k)
theorem TreesAt.agree {w w' : World} {T a b c d s1 s2 : Nat} (h : TreesAt w T a b c d s1 s2) {F : Nat → Prop} (ha : Agree F w w') (hF : ∀ x, s1 ≤ x → x < s2 → F x) : TreesAt w' T a b c d s1 s2 := by
  obtain ⟨h1, h2, h3, h4, h5, h6, h7, h8, h9⟩ := h
  refine ⟨h1.agree ha (hF _ h6 h8), h2, h3, h4, h5, h6, h7, h8, fun k hk => (h9 k hk).agree ha fun x hx => ?_⟩
  rcases rootP_in hx with e | e | e | e <;> exact hF _ (by omega) (by omega)
theorem TreesAt.ps {w : World} {T a b c d s1 s2 : Nat} (h : TreesAt w T a b c d s1 s2) {ns : List Nat} (hn : ∀ k ∈ ns, k < 5) : ∀ q ∈ psOf a b c d ns, Leads w q := fun q hq => by
  simp only [psOf, List.mem_map] at hq
  obtain ⟨k, hk, rfl⟩ := hq
  exact h.leads k (hn k hk)
structure LogSt (base s1 s2 keep j T a b c d L P R f : Nat) (ns : List Nat) (sv sn : Sl) (w : World) : Prop where
  log : LogAt w L R keep f ((psOf a b c d ns).map .pointer)
  ref : RefL w P keep f ns sv sn
  rv : Rd w (fun x => x < w.heap.size ∧ P < x ∧ x ≠ L ∧ x ≠ R) 1 sv ns.length (verV f ns.length)
  rn : Rd w (fun x => x < w.heap.size ∧ P < x ∧ x ≠ L ∧ x ≠ R) 1 sn ns.length (numV ns)
  five : ∀ k ∈ ns, k < 5
  len : ns.length ≤ j
  LP : L ≠ P
  RP : R ≠ P
  bL : base ≤ L
  bR : base ≤ R
  bP : base ≤ P
  oL : L < s1 ∨ s2 ≤ L
  oR : R < s1 ∨ s2 ≤ R
  oP : s2 ≤ P
  trees : TreesAt w T a b c d s1 s2
  le : s2 ≤ w.heap.size
section
variable {base s1 s2 keep j T a b c d L P R f : Nat} {ns : List Nat} {sv sn : Sl} {w w' : World}
theorem LogSt.agree (h : LogSt base s1 s2 keep j T a b c d L P R f ns sv sn w) (ha : Agree (fun x => x < w.heap.size) w w') (hs : w.heap.size ≤ w'.heap.size) : LogSt base s1 s2 keep j T a b c d L P R f ns sv sn w' :=
  ⟨h.log.agree ha h.log.lt.1 h.log.lt.2, h.ref.agree ha (fun _ hb _ => hb) hs, (h.rv.agree (ha.mono fun x hx => hx.1)).mono fun x hx => ⟨Nat.lt_of_lt_of_le hx.1 hs, hx.2⟩, (h.rn.agree (ha.mono fun x hx => hx.1)).mono fun x hx => ⟨Nat.lt_of_lt_of_le hx.1 hs, hx.2⟩,
    h.five, h.len, h.LP, h.RP, h.bL, h.bR, h.bP, h.oL, h.oR, h.oP, h.trees.agree ha fun x _ hx => Nat.lt_of_lt_of_le hx h.le, Nat.le_trans h.le hs⟩
theorem LogSt.below (h : LogSt base s1 s2 keep j T a b c d L P R f ns sv sn w) (hb : Below w.heap.size w w') : LogSt base s1 s2 keep j T a b c d L P R f ns sv sn w' := h.agree (Agree.of_below hb fun _ h => h) hb.size
theorem LogSt.ext (h : LogSt base s1 s2 keep j T a b c d L P R f ns sv sn w) (hx : Ext w w') : LogSt base s1 s2 keep j T a b c d L P R f ns sv sn w' := h.below hx.below
theorem LogSt.more (h : LogSt base s1 s2 keep j T a b c d L P R f ns sv sn w) {j' : Nat} (hj : j ≤ j') : LogSt base s1 s2 keep j' T a b c d L P R f ns sv sn w := { h with len := Nat.le_trans h.len hj }
theorem LogSt.same (h : LogSt base s1 s2 keep j T a b c d L P R f ns sv sn w) : Calls Try.prog 46 #[logV L, .pointer (some ⟨P, 0, none⟩), .slice (some ⟨T, 0, none⟩) 5 5] w fun e w' => e = .returned (.bool true) ∧ Below w.heap.size w w' := by
  rcases Nat.eq_zero_or_pos ns.length with h0 | h0
  · obtain rfl := List.length_eq_zero_iff.1 h0
    exact same_none (by simpa [psOf] using h.log) h.ref h.trees.row
  · exact same_some h.log h.ref h.trees.row h.five (h.trees.ps h.five) h0
theorem LogSt.asks (h : LogSt base s1 s2 keep j T a b c d L P R f ns sv sn w) (v : Nat) (hv : v < 18446744073709551616) : Calls Try.prog 42 #[logV L, .pointer (some ⟨P, 0, none⟩), .slice (some ⟨T, 0, none⟩) 5 5, .int .u64 v] w fun e w' => e = .returned (.bool true) ∧ Below w.heap.size w w' :=
  asks_any h.log h.ref h.trees.row h.five (h.trees.ps h.five) h.trees.ab h.trees.bc h.trees.cd v hv
theorem LogSt.anew (h : LogSt base s1 s2 keep j T a b c d L P R f [] sv sn w) (f' : Nat) (hf : f' ≤ 4611686018427387904) : LogSt base s1 s2 keep j T a b c d L P R f' [] sv sn w :=
  { h with log := by have := LogAt.anew (by simpa [psOf] using h.log) f'; simpa [psOf] using this, ref := h.ref.anew f' hf, rv := by simpa [verV] using h.rv }
theorem psOf_put (a b c d k : Nat) (ns : List Nat) : (psOf a b c d (ns ++ [k])).map Value.pointer = (psOf a b c d ns).map .pointer ++ [.pointer (rootP a b c d k)] := by simp [psOf]
theorem ps_len (a b c d : Nat) (ns : List Nat) : ((psOf a b c d ns).map Value.pointer).length = ns.length := by simp [psOf]
theorem putCode_two {keep n z v : Nat} (hk : 1 ≤ keep) : putCode z (min n keep) v = putCode z n v := by
  have : (0 < min n keep) ↔ 0 < n := by omega
  unfold putCode
  simp only [this]
theorem Rd.both {w : World} {F G : Nat → Prop} {s : Sl} {n : Nat} {cs : List Value} (h : Rd w F 1 s n cs) (h' : Rd w G 1 s n cs) : Rd w (fun x => F x ∧ G x) 1 s n cs := by
  obtain ⟨b, o, h1, h2, h3⟩ := h
  obtain ⟨b', o', h1', -, -⟩ := h'
  refine ⟨b, o, ?_, h2, h3⟩
  cases h1 with
  | nil => exact .nil _ _
  | some _ c _ _ hn hm hF =>
    cases h1' with
    | some _ _ _ _ _ _ hF' => exact .some _ c _ _ hn hm ⟨hF, hF'⟩
    | zero => exact .zero _ _ _
  | zero => exact .zero _ _ _
def Put2 (base s1 s2 keep j T a b c d L P R : Nat) (code : Nat) (w : World) (e : Ending) (w' : World) : Prop :=
  e = .returned (.int .i64 code) ∧ (∃ f ns sv sn, LogSt base s1 s2 keep (j + 1) T a b c d L P R f ns sv sn w') ∧ Agree (fun x => x < w.heap.size ∧ x ≠ L ∧ x ≠ R ∧ x ≠ P) w w' ∧ w.heap.size ≤ w'.heap.size ∧ Below 0 w w'
def Put1 (base s1 s2 keep j T a b c d L P R v k : Nat) (w : World) (e : Ending) (w' : World) : Prop :=
  ∃ code : Nat, e = .returned (.int .i64 code) ∧ Calls Try.prog 41 #[.pointer (some ⟨P, 0, none⟩), .int .u64 v, .int .i64 k] w' (Put2 base s1 s2 keep j T a b c d L P R code w) ∧ Agree (fun x => x < w.heap.size ∧ x ≠ L ∧ x ≠ R) w w' ∧ w.heap.size ≤ w'.heap.size ∧ Below 0 w w'
theorem LogSt.aside (h : LogSt base s1 s2 keep j T a b c d L P R f ns sv sn w) {L' R' : Nat} (ha : Agree (fun x => x < w.heap.size ∧ x ≠ L ∧ x ≠ R) w w') (hs : w.heap.size ≤ w'.heap.size) : RefL w' P keep f ns sv sn ∧ TreesAt w' T a b c d s1 s2 := by
  have hP := h.ref.blk.lt
  refine ⟨⟨h.ref.blk.agree ha ⟨hP, fun e => h.LP e.symm, fun e => h.RP e.symm⟩, (h.rv.agree (ha.mono fun x hx => ⟨hx.1, hx.2.2⟩)).mono fun x hx => ⟨Nat.lt_of_lt_of_le hx.1 hs, hx.2.1⟩, (h.rn.agree (ha.mono fun x hx => ⟨hx.1, hx.2.2⟩)).mono fun x hx => ⟨Nat.lt_of_lt_of_le hx.1 hs, hx.2.1⟩, h.ref.few, h.ref.small, h.ref.keep1⟩, h.trees.agree ha fun x h1 h2 => ⟨Nat.lt_of_lt_of_le h2 h.le, ?_, ?_⟩⟩
  · have := h.oL; omega
  · have := h.oR; omega
theorem LogSt.putOk (h : LogSt base s1 s2 keep j T a b c d L P R f ns sv sn w) (hj : j < 1000) {v k : Nat} (hv : v = f + ns.length) (hvm : v ≤ 4611686018427387903) (hk : k < 5) :
    Calls Try.prog 29 #[logV L, .int .u64 v, .agg #[.pointer (rootP a b c d k)]] w (Put1 base s1 s2 keep j T a b c d L P R v k w) := by
  refine (put_logB h.log v (by rw [ps_len]; exact hv) hvm (rootP a b c d k)).mono ?_
  rintro e w1 ⟨⟨rfl, hl1, ha1, hs1, -⟩, hb1⟩
  refine ⟨0, rfl, ?_, ha1, hs1, hb1⟩
  rw [← psOf_put] at hl1
  obtain ⟨hr1, ht1⟩ := h.aside (L' := L) (R' := R) ha1 hs1
  have hll := h.log.lt
  refine (put19r hr1 (by have := h.len; omega) v k hv hvm).mono ?_
  rintro e w2 ⟨rfl, ⟨sv', sn', hr2, hv2, hn2⟩, ha2, hs2, -, hb2⟩
  refine ⟨rfl, ⟨f, ns ++ [k], sv', sn', hl1.agree ha2 ⟨by omega, h.LP⟩ ⟨by omega, h.RP⟩, hr2, hv2.mono fun x hx => ⟨hx.2.1, hx.2.2, by omega, by omega⟩, hn2.mono fun x hx => ⟨hx.2.1, hx.2.2, by omega, by omega⟩, fun q hq => ?_, ?_, h.LP, h.RP, h.bL, h.bR, h.bP, h.oL, h.oR, h.oP, ht1.agree ha2 fun x h1 h2 => ⟨?_, ?_⟩, ?_⟩, ?_, by omega, hb1.trans hb2⟩
  · rcases List.mem_append.1 hq with hq | hq
    · exact h.five q hq
    · rw [List.mem_singleton.1 hq]; exact hk
  · have := h.len; simp; omega
  · have := h.le; omega
  · have := h.oP; omega
  · have := h.le; omega
  · exact (ha1.mono fun x hx => ⟨hx.1, hx.2.1, hx.2.2.1⟩).trans (ha2.mono fun x hx => ⟨by omega, hx.2.2.2⟩)
theorem LogSt.putBad (h : LogSt base s1 s2 keep j T a b c d L P R f ns sv sn w) {v k : Nat} (hv : v < 18446744073709551616) (hc : putCode (if ns.length = 0 then 0 else f + ns.length - 1) ns.length v ≠ 0) :
    Calls Try.prog 29 #[logV L, .int .u64 v, .agg #[.pointer (rootP a b c d k)]] w (Put1 base s1 s2 keep j T a b c d L P R v k w) := by
  obtain ⟨ring, hl, -⟩ := id h.log
  have hk1 := h.ref.keep1
  have e1 : putCode (lastV f ((psOf a b c d ns).map .pointer)) (min ((psOf a b c d ns).map Value.pointer).length keep) v = putCode (if ns.length = 0 then 0 else f + ns.length - 1) ns.length v := by
    rw [ps_len, putCode_two hk1.1, lastV, ps_len]
  refine (put_bad hl v hv (.pointer (rootP a b c d k)) (by rw [e1]; exact hc)).mono ?_
  rintro e w1 ⟨rfl, hx1⟩
  rw [e1]
  refine ⟨_, rfl, ?_, hx1.agree fun x hx => hx.1, hx1.size, hx1.below.mono (Nat.zero_le _)⟩
  refine (put19_bad (h.ext hx1).ref v k hv hc).mono ?_
  rintro e w2 ⟨rfl, hx2⟩
  have hx := hx1.trans hx2
  exact ⟨rfl, ⟨f, ns, sv, sn, (h.ext hx).more (Nat.le_succ j)⟩, hx.agree fun x hx => hx.1, hx.size, hx.below.mono (Nat.zero_le _)⟩
theorem LogSt.put (h : LogSt base s1 s2 keep j T a b c d L P R f ns sv sn w) (hj : j < 1000) {v k : Nat} (hv : v < 18446744073709551616) (hk : k < 5) :
    Calls Try.prog 29 #[logV L, .int .u64 v, .agg #[.pointer (rootP a b c d k)]] w (Put1 base s1 s2 keep j T a b c d L P R v k w) := by
  by_cases hc : putCode (if ns.length = 0 then 0 else f + ns.length - 1) ns.length v = 0
  · have hvm : v ≤ 4611686018427387903 := by
      unfold putCode at hc; split at hc
      · cases hc
      · omega
    rcases Nat.eq_zero_or_pos ns.length with h0 | h0
    · obtain rfl := List.length_eq_zero_iff.1 h0
      exact (h.anew v (by omega)).putOk hj rfl hvm hk
    · refine h.putOk hj ?_ hvm hk
      unfold putCode at hc
      rw [if_neg (by omega), if_neg (by omega : ¬ ns.length = 0)] at hc
      split at hc
      · cases hc
      · split at hc
        · cases hc
        · omega
  · exact h.putBad hv hc
def Copied (base s1 s2 keep j T a b c d L P R f : Nat) (ns : List Nat) (sv sn : Sl) (w : World) (e : Ending) (w' : World) : Prop :=
  ∃ L' R', e = .returned (logV L') ∧ LogSt base s1 s2 keep j T a b c d L' P R' f ns sv sn w' ∧ w.heap.size ≤ L' ∧ w.heap.size ≤ R' ∧ Ext w w'
theorem LogSt.copy (h : LogSt base s1 s2 keep j T a b c d L P R f ns sv sn w) (hbs : base ≤ w.heap.size) : Calls Try.prog 45 #[logV L] w (Copied base s1 s2 keep j T a b c d L P R f ns sv sn w) := by
  obtain ⟨ring, hl, hh⟩ := id h.log
  refine (copy_log hl).mono ?_
  rintro e w1 ⟨L', R', rfl, hl1, hL, hR, hx⟩
  have hP := h.ref.blk.lt
  have hle := h.le
  have h1 := h.ext hx
  exact ⟨L', R', rfl, { h1 with log := ⟨ring, hl1, hh⟩, rv := (h.rv.agree (hx.agree fun x hx => hx.1)).mono fun x hx' => ⟨Nat.lt_of_lt_of_le hx'.1 hx.size, hx'.2.1, by omega, by omega⟩, rn := (h.rn.agree (hx.agree fun x hx => hx.1)).mono fun x hx' => ⟨Nat.lt_of_lt_of_le hx'.1 hx.size, hx'.2.1, by omega, by omega⟩, LP := by omega, RP := by omega, bL := by omega, bR := by omega, oL := .inr (by omega), oR := .inr (by omega) }, hL, hR, hx⟩
def Dropped (base s1 s2 keep j T a b c d L L' P R R' f : Nat) (ns : List Nat) (sv sn : Sl) (w : World) (e : Ending) (w' : World) : Prop :=
  (∃ r, e = .returned r) ∧ LogSt base s1 s2 keep j T a b c d L' P R' f ns sv sn w' ∧ Agree (fun x => x < w.heap.size ∧ x ≠ L ∧ x ≠ R) w w' ∧ w.heap.size ≤ w'.heap.size ∧ Below 0 w w'
theorem LogSt.drop (h : LogSt base s1 s2 keep j T a b c d L P R f ns sv sn w) {L' R' : Nat} (h' : LogSt base s1 s2 keep j T a b c d L' P R' f ns sv sn w) (h1 : L' ≠ L) (h2 : L' ≠ R) (h3 : R' ≠ L) (h4 : R' ≠ R) {v : Nat} (hv : v = f + ns.length) (h0 : 0 < ns.length) (q : Option Addr) :
    Calls Try.prog 29 #[logV L, .int .u64 v, .agg #[.pointer q]] w (Dropped base s1 s2 keep j T a b c d L L' P R R' f ns sv sn w) := by
  have hsm := h.ref.small
  by_cases hvm : v ≤ 4611686018427387903
  · refine (put_logB h.log v (by rw [ps_len]; exact hv) hvm q).mono ?_
    rintro e w1 ⟨⟨rfl, hl1, ha1, hs1, -⟩, hb1⟩
    have hll := h'.log.lt
    have hP := h.ref.blk.lt
    obtain ⟨hr1, ht1⟩ := h.aside (L' := L) (R' := R) ha1 hs1
    refine ⟨⟨_, rfl⟩, { h' with log := h'.log.agree ha1 ⟨hll.1, h1, h2⟩ ⟨hll.2, h3, h4⟩, ref := hr1, rv := ?_, rn := ?_, trees := ht1, le := Nat.le_trans h.le hs1 }, ha1, hs1, hb1⟩
    · exact ((h'.rv.both h.rv).agree (ha1.mono fun x hx => ⟨hx.1.1, hx.2.2.2⟩)).mono fun x hx => ⟨Nat.lt_of_lt_of_le hx.1.1 hs1, hx.1.2⟩
    · exact ((h'.rn.both h.rn).agree (ha1.mono fun x hx => ⟨hx.1.1, hx.2.2.2⟩)).mono fun x hx => ⟨Nat.lt_of_lt_of_le hx.1.1 hs1, hx.1.2⟩
  · obtain ⟨ring, hl, -⟩ := id h.log
    refine (put_bad hl v (by omega) (.pointer q) (by unfold putCode; rw [if_pos (by omega)]; decide)).mono ?_
    rintro e w1 ⟨rfl, hx⟩
    exact ⟨⟨_, rfl⟩, h'.ext hx, hx.agree fun x hx => hx.1, hx.size, hx.below.mono (Nat.zero_le _)⟩
end
end Go.Proofs.Ytpapoalgocmlaaa
