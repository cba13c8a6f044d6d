/- What the theorem needs of the texts Me: no condition of its own. -/
import Derived.Deep.RegionHeld3
import Derived.Test.YtohajcflklejjaaPoa
import Derived.Test.YtohajcflklejjaaPob
import Derived.Test.YtohajcflklejjaaPoc
import Derived.Test.YtohajcflklejjaaPod
namespace Go.Proofs.Ytohajcflklejjaa
set_option linter.unusedVariables false
section
variable {P : Program} {ops : Array Oper} {Q : Exit → Act → World → Prop} {md : Region.Mode} {S : World → Prop}
theorem held_on {i : Nat} {oi : Oper} {d : Option Tmp} {v : Value} {fuel : Nat} {listed : Array Bool} {a : Act} {w : World} (hi : ops[i]? = some oi) (hd : oi.dst = d)
    (hs : Region.noSelect ops = true) (hf : Region.free md ops listed i = true) (hr : (Region.ready md ops listed).contains i = true)
    (hQ : ∀ c a w, Q (.panic c) (a.put d v) w → Q (.panic c) a w) (hw : Region.wanted oi (yielded ops a.tmps) = true) (hS : S w) (hy : ∀ w, S w → (execOp a.eval oi).run P w = .ok (.value v) w)
    (h : wpAnyH P md ops Q S fuel (listed.setIfInBounds i true) (a.put d v) w) : wpAnyH P md ops Q S (fuel + 1) listed a w := by
  subst hd
  exact wpAnyH_take hi hs hf hr hQ (.inl ⟨hw, hy⟩) hS h
theorem held_off {i : Nat} {oi : Oper} {d : Option Tmp} {fuel : Nat} {listed : Array Bool} {a : Act} {w : World} (hi : ops[i]? = some oi) (hd : oi.dst = d)
    (hs : Region.noSelect ops = true) (hf : Region.free md ops listed i = true) (hr : (Region.ready md ops listed).contains i = true)
    (hQ : ∀ c a w, Q (.panic c) (a.put d undef) w → Q (.panic c) a w) (hw : Region.wanted oi (yielded ops a.tmps) = false) (hS : S w)
    (h : wpAnyH P md ops Q S fuel (listed.setIfInBounds i true) (a.put d undef) w) : wpAnyH P md ops Q S (fuel + 1) listed a w := by
  subst hd
  exact wpAnyH_take hi hs hf hr hQ (.inr ⟨hw, rfl⟩) hS h
theorem held_call {i : Nat} {oi : Oper} {fuel : Nat} {listed : Array Bool} {a : Act} {w : World} (hr : Region.ready md ops listed = [i]) (hi : ops[i]? = some oi) (hw : Region.wanted oi (yielded ops a.tmps) = true)
    (h : ∀ K' : Act → World → Prop, Shut (∀ a w, S w → (S w → wpAnyH P md ops Q S fuel (listed.setIfInBounds i true) a w) → K' a w) → Oper.wp P oi a w K' Q) : wpAnyH P md ops Q S (fuel + 1) listed a w :=
  wpAnyH_ready hr (by simp) (AllReadyH.cons hi (fun K' hK => by rw [if_pos hw]; exact h K' hK) AllReadyH.nil)
end
end Go.Proofs.Ytohajcflklejjaa
namespace Go.Proofs.Ytohajcflklejjaa
open Go.RowKit
set_option linter.unusedVariables false
set_option linter.unusedSimpArgs false
theorem numbers_any (w : World) (a b : Int) : Calls Try.prog 48 #[.int .i64 a, .int .i64 b] w fun e w' => e = .returned (.int .i64 (numI a b)) ∧ w = w' := by
  by_cases h : a < b
  · have hn : numI a b = -1 := by simp [numI, h]
    rw [hn]
    go_enter Try.func48, Try.ntmps48
    go_wp2_with fail
    go_ret
    exact ⟨rfl, rfl⟩
  · by_cases h' : b < a
    · have hn : numI a b = 1 := by simp [numI, h, h']
      rw [hn]
      go_enter Try.func48, Try.ntmps48
      go_wp2_with fail
      go_ret
      exact ⟨rfl, rfl⟩
    · have hn : numI a b = 0 := by simp [numI, h, h']
      rw [hn]
      go_enter Try.func48, Try.ntmps48
      go_wp2_with fail
      go_ret
      exact ⟨rfl, rfl⟩
theorem bl_same (p x y : List UInt8) : Op.bytesLess (p ++ x) (p ++ y) = Op.bytesLess x y := by
  induction p with
  | nil => rfl
  | cons a p ih => simp [Op.bytesLess, ih]
theorem byte_get {a : ByteArray} {i : Nat} (h : i < a.size) : a.toList[i]? = some a[i] := by
  rw [ByteArray.toList_eq]
  obtain ⟨d⟩ := a
  have h : i < d.size := h
  show d.toList[i]? = some d[i]
  simp [h]
theorem toList_len (a : ByteArray) : a.toList.length = a.size := by
  rw [ByteArray.toList_eq]; rfl
theorem textI_diff {a b : ByteArray} {i : Nat} (ha : i < a.size) (hb : i < b.size) (hp : a.toList.take i = b.toList.take i) (hne : a[i] ≠ b[i]) : textI a b = numI (a[i].toNat : Int) (b[i].toNat : Int) := by
  have e1 : a.toList = a.toList.take i ++ a[i] :: a.toList.drop (i + 1) := by
    have h := byte_get ha
    obtain ⟨h1, h2⟩ := List.getElem?_eq_some_iff.1 h
    conv => lhs; rw [← List.take_append_drop i a.toList, List.drop_eq_getElem_cons h1, h2]
  have e2 : b.toList = a.toList.take i ++ b[i] :: b.toList.drop (i + 1) := by
    have h := byte_get hb
    obtain ⟨h1, h2⟩ := List.getElem?_eq_some_iff.1 h
    conv => lhs; rw [← List.take_append_drop i b.toList, List.drop_eq_getElem_cons h1, h2]
    rw [hp]
  unfold textI klt
  generalize a[i] = x at *
  generalize b[i] = y at *
  have key : ∀ (P u v A B : List UInt8), A = P ++ x :: u → B = P ++ y :: v → Op.bytesLess A B = decide (x < y) ∧ Op.bytesLess B A = decide (y < x) := by
    rintro P u v A B rfl rfl
    have hne' : ¬ x = y := hne
    have hne2 : ¬ y = x := fun h => hne h.symm
    rw [bl_same, bl_same]
    exact ⟨by simp [Op.bytesLess, hne'], by simp [Op.bytesLess, hne2]⟩
  obtain ⟨k1, k2⟩ := key _ _ _ _ _ e1 e2
  rw [k1, k2]
  unfold numI
  have h1 : (x < y) ↔ ((x.toNat : Int) < (y.toNat : Int)) := by rw [UInt8.lt_iff_toNat_lt]; omega
  have h2 : (y < x) ↔ ((y.toNat : Int) < (x.toNat : Int)) := by rw [UInt8.lt_iff_toNat_lt]; omega
  simp only [decide_eq_true_eq, h1, h2]
theorem textI_pre {a b : ByteArray} (hp : a.toList.take (min a.size b.size) = b.toList.take (min a.size b.size)) : textI a b = numI (a.size : Int) (b.size : Int) := by
  have la := toList_len a
  have lb := toList_len b
  rcases Nat.lt_trichotomy a.size b.size with h | h | h
  · have e : b.toList = a.toList ++ b.toList.drop a.size := by
      rw [Nat.min_eq_left (Nat.le_of_lt h), ← la, List.take_length, la] at hp
      conv => lhs; rw [← List.take_append_drop a.size b.toList, ← hp]
    obtain ⟨c, r, hr⟩ : ∃ c r, b.toList.drop a.size = c :: r := by
      cases hd : b.toList.drop a.size with
      | nil => have := congrArg List.length hd; rw [List.length_drop, lb] at this; simp at this; omega
      | cons c r => exact ⟨c, r, rfl⟩
    have k1 : klt a b = true := by
      unfold klt
      rw [e, hr]
      conv => lhs; arg 1; rw [← List.append_nil a.toList]
      rw [bl_same]; rfl
    unfold textI numI
    rw [if_pos k1, if_pos (by omega)]
  · have e : a = b := toList_inj (by rw [h, Nat.min_self, ← lb] at hp; rw [List.take_length] at hp; rw [← hp, lb, ← h, ← la, List.take_length])
    subst e
    rw [textI_self, numI_self]
  · have e : a.toList = b.toList ++ a.toList.drop b.size := by
      rw [Nat.min_eq_right (Nat.le_of_lt h)] at hp
      conv => lhs; rw [← List.take_append_drop b.size a.toList, hp, ← lb, List.take_length]
      rw [lb]
    obtain ⟨c, r, hr⟩ : ∃ c r, a.toList.drop b.size = c :: r := by
      cases hd : a.toList.drop b.size with
      | nil => have := congrArg List.length hd; rw [List.length_drop, la] at this; simp at this; omega
      | cons c r => exact ⟨c, r, rfl⟩
    have k1 : klt b a = true := by
      unfold klt
      rw [e, hr]
      conv => lhs; arg 1; rw [← List.append_nil b.toList]
      rw [bl_same]; rfl
    unfold textI numI
    rw [if_neg (by rw [klt_asymm k1]; simp), if_pos k1, if_neg (by omega), if_pos (by omega)]
set_option maxRecDepth 100000 in
theorem texts_any (w : World) (a b : ByteArray) (ha : a.size ≤ maxLen) (hb : b.size ≤ maxLen) : Calls Try.prog 49 #[.string a, .string b] w fun e w' => e = .returned (.int .i64 (textI a b)) ∧ Ext w w' := by
  have hn : ∀ W x y, Calls Try.prog 48 #[.int .i64 x, .int .i64 y] W fun e w' => e = .returned (.int .i64 (numI x y)) ∧ W = w' := numbers_any
  unfold maxLen at ha hb
  have HN := Lib.hid hn
  clear hn
  go_enter Try.func49, Try.ntmps49
  go_wp2_with fail
  go_loopw [5] (fun q wr => ∃ i : Nat, q = .int .i64 i ∧ i ≤ a.size ∧ i ≤ b.size ∧ a.toList.take i = b.toList.take i ∧ Ext w wr) (fun q _ => a.size - (intOf q).toNat)
  case atStart => exact ⟨0, rfl, Nat.zero_le _, Nat.zero_le _, rfl, Ext.refl w⟩
  case round =>
    obtain ⟨i, rfl, hia, hib, hp, hx⟩ := hrel
    by_cases h1 : i < a.size
    · by_cases h2 : i < b.size
      · have g1 : (i : Int) < (a.size : Int) := by omega
        have g2 : (i : Int) < (b.size : Int) := by omega
        have HP := Lib.hid hp
        have HX := Lib.hid hx
        clear hp hx
        go_wp2_with fail
        go_quiet (fail)
        go_wp2_with fail
        case _ =>
          have hne : (((a[i].toNat : Nat) : Int) != ((b[i].toNat : Nat) : Int)) = true := by assumption
          have hne' : a[i] ≠ b[i] := fun e => by rw [e] at hne; simp at hne
          have HT := Lib.hid (textI_diff h1 h2 HP.out hne')
          have hwa : wrap64 ((a[i].toNat : Nat) : Int) = ((a[i].toNat : Nat) : Int) := by have := a[i].toNat_lt; unfold wrap64; omega
          have hwb : wrap64 ((b[i].toNat : Nat) : Int) = ((b[i].toNat : Nat) : Int) := by have := b[i].toNat_lt; unfold wrap64; omega
          have HWA := Lib.hid hwa
          have HWB := Lib.hid hwb
          clear hne' hwa hwb
          go_quiet ((go_at_call 48; refine (HN.out _ _ _).mono ?_; rintro e w2 ⟨rfl, rfl⟩; exact ⟨rfl, _, rfl⟩))
          go_wp2_with fail
          go_ret
          rw [HT.out, HWA.out, HWB.out]
          exact ⟨rfl, (HX.out.drewN _).drewN _⟩
        case roundEnd =>
          have hne : (((a[i].toNat : Nat) : Int) != ((b[i].toNat : Nat) : Int)) = false := by assumption
          have he : a[i] = b[i] := UInt8.toNat_inj.1 (by have h := bne_eq_false_iff_eq.1 hne; omega)
          refine ⟨⟨i + 1, by simp, by omega, by omega, ?_, HX.out.drewN _⟩, ?_⟩
          · rw [List.take_add_one, List.take_add_one, byte_get h1, byte_get h2, HP.out, he]
          · simp [intOf]; omega
      · have g1 : (i : Int) < (a.size : Int) := by omega
        have g2 : ¬ (i : Int) < (b.size : Int) := by omega
        obtain rfl : i = b.size := by omega
        have HT := Lib.hid (textI_pre (a := a) (b := b) (by rw [Nat.min_eq_right hia]; exact hp))
        have HX := Lib.hid hx
        clear hp hx
        go_wp2_with fail
        refine (HN.out _ _ _).mono ?_
        rintro e w2 ⟨rfl, rfl⟩
        go_wp2_with fail
        go_ret
        rw [HT.out]
        exact ⟨rfl, HX.out⟩
    · have g1 : ¬ (i : Int) < (a.size : Int) := by omega
      obtain rfl : i = a.size := by omega
      have HT := Lib.hid (textI_pre (a := a) (b := b) (by rw [Nat.min_eq_left hib]; exact hp))
      have HX := Lib.hid hx
      clear hp hx
      go_wp2_with fail
      refine (HN.out _ _ _).mono ?_
      rintro e w2 ⟨rfl, rfl⟩
      go_wp2_with fail
      go_ret
      rw [HT.out]
      exact ⟨rfl, HX.out⟩
end Go.Proofs.Ytohajcflklejjaa
namespace Go.Proofs.Ytohajcflklejjaa
open Go.RowKit
set_option linter.unusedVariables false
set_option linter.unusedSimpArgs false
def CmpPost (n : Int) (w : World) (e : Ending) (w' : World) : Prop := e = .returned (.int .i64 n) ∧ Ext w w'
theorem cmpL_drop {l l' : List Val} {j : Nat} {a b : Val} (ha : l[j]? = some a) (hb : l'[j]? = some b) : cmpL (l.drop j) (l'.drop j) = if cmpV a b ≠ 0 then cmpV a b else cmpL (l.drop (j + 1)) (l'.drop (j + 1)) := by
  obtain ⟨h1, rfl⟩ := List.getElem?_eq_some_iff.1 ha
  obtain ⟨h2, rfl⟩ := List.getElem?_eq_some_iff.1 hb
  rw [List.drop_eq_getElem_cons h1, List.drop_eq_getElem_cons h2]
  simp only [cmpL]
theorem cmpL_end {l l' : List Val} {j : Nat} (h : j = l.length ∨ j = l'.length) (h1 : j ≤ l.length) (h2 : j ≤ l'.length) : cmpL (l.drop j) (l'.drop j) = numI (l.length : Int) (l'.length : Int) := by
  by_cases ha : j = l.length
  · have e1 : l.drop j = [] := List.drop_eq_nil_iff.2 (by omega)
    rw [e1]
    simp only [cmpL, List.length_drop]
    unfold numI
    by_cases hb : l'.length - j = 0
    · rw [if_pos hb, if_neg (by omega), if_neg (by omega)]
    · rw [if_neg hb, if_pos (by omega)]
  · obtain ⟨a, r, hr⟩ : ∃ a r, l.drop j = a :: r := by
      cases hd : l.drop j with
      | nil => have := List.drop_eq_nil_iff.1 hd; omega
      | cons a r => exact ⟨a, r, rfl⟩
    have e2 : l'.drop j = [] := List.drop_eq_nil_iff.2 (by omega)
    rw [hr, e2]
    simp only [cmpL]
    unfold numI
    rw [if_neg (by omega), if_pos (by omega)]
theorem cmpM_drop {l l' : List Val} {k k' : List ByteArray} {j : Nat} {a b : Val} {x y : ByteArray} (ha : l[j]? = some a) (hb : l'[j]? = some b) (hx : k[j]? = some x) (hy : k'[j]? = some y) :
    cmpM (l.drop j) (k.drop j) (k'.drop j) (l'.drop j) = if textI x y ≠ 0 then textI x y else if cmpV a b ≠ 0 then cmpV a b else cmpM (l.drop (j + 1)) (k.drop (j + 1)) (k'.drop (j + 1)) (l'.drop (j + 1)) := by
  obtain ⟨h1, rfl⟩ := List.getElem?_eq_some_iff.1 ha
  obtain ⟨h2, rfl⟩ := List.getElem?_eq_some_iff.1 hb
  obtain ⟨h3, rfl⟩ := List.getElem?_eq_some_iff.1 hx
  obtain ⟨h4, rfl⟩ := List.getElem?_eq_some_iff.1 hy
  rw [List.drop_eq_getElem_cons h1, List.drop_eq_getElem_cons h2, List.drop_eq_getElem_cons h3, List.drop_eq_getElem_cons h4]
  simp only [cmpM, List.headD_cons, List.tail_cons]
  rfl
theorem cmpM_end {l l' : List Val} {k k' : List ByteArray} {j : Nat} (h : j = l.length ∨ j = l'.length) (h1 : j ≤ l.length) (h2 : j ≤ l'.length) : cmpM (l.drop j) (k.drop j) (k'.drop j) (l'.drop j) = numI (l.length : Int) (l'.length : Int) := by
  by_cases ha : j = l.length
  · have e1 : l.drop j = [] := List.drop_eq_nil_iff.2 (by omega)
    rw [e1]
    simp only [cmpM, List.length_drop]
    unfold numI
    by_cases hb : l'.length - j = 0
    · rw [if_pos hb, if_neg (by omega), if_neg (by omega)]
    · rw [if_neg hb, if_pos (by omega)]
  · obtain ⟨a, r, hr⟩ : ∃ a r, l.drop j = a :: r := by
      cases hd : l.drop j with
      | nil => have := List.drop_eq_nil_iff.1 hd; omega
      | cons a r => exact ⟨a, r, rfl⟩
    have e2 : l'.drop j = [] := List.drop_eq_nil_iff.2 (by omega)
    rw [hr, e2]
    simp only [cmpM]
    unfold numI
    rw [if_neg (by omega), if_pos (by omega)]
set_option maxRecDepth 100000 in
set_option maxHeartbeats 2000000 in
theorem cmp02_any (m : Nat) : ∀ (x y : Val), SizeOf.sizeOf x ≤ m → ∀ (w : World) (sl so sl' so' : Sl), RV w (Lt w.heap.size) x sl so → RV w (Lt w.heap.size) y sl' so' →
    Calls Try.prog 36 #[aggV x sl so, aggV y sl' so'] w (CmpPost (cmpV x y) w) := by
  induction m with
  | zero => intro d y hd; have := Val.sz_pos d; omega
  | succ m ih =>
  intro x y hd w sl so sl' so' h h'
  have HI := Lib.hid ih
  clear ih
  have hn : ∀ W a b, Calls Try.prog 48 #[.int .i64 a, .int .i64 b] W fun e w' => e = .returned (.int .i64 (numI a b)) ∧ W = w' := numbers_any
  have HN := Lib.hid hn
  clear hn
  obtain ⟨k, b, i, t, l, ok, ov⟩ := x
  obtain ⟨k', b', i', t', l', ok', ov'⟩ := y
  show Calls _ _ #[.agg #[.int .i64 k, .bool b, .int .i64 i, .string t, .slice sl.a l.length sl.c, .slice so.a ok.length so.c], .agg #[.int .i64 k', .bool b', .int .i64 i', .string t', .slice sl'.a l'.length sl'.c, .slice so'.a ok'.length so'.c]] _ _
  cases h with
  | mk bl fl bo fo cl co hl ho hov el rl ek eo ro bk bi bt nl no =>
  cases h' with
  | mk bl' fl' bo' fo' cl' co' hl' ho' hov' el' rl' ek' eo' ro' bk' bi' bt' nl' no' =>
  have hsl : ∀ (j : Nat) (d : Val), l[j]? = some d → SizeOf.sizeOf d ≤ m := fun j d hj => Nat.le_of_lt_succ (Nat.lt_of_lt_of_le (Val.sz_l hj) hd)
  have hso : ∀ (j : Nat) (d : Val), ov[j]? = some d → SizeOf.sizeOf d ≤ m := fun j d hj => Nat.le_of_lt_succ (Nat.lt_of_lt_of_le (Val.sz_o hj) hd)
  have HSL := Lib.hid hsl
  have HSO := Lib.hid hso
  have HEL := Lib.hid el
  have HRL := Lib.hid rl
  have HEK := Lib.hid ek
  have HEO := Lib.hid eo
  have HRO := Lib.hid ro
  have HOV := Lib.hid hov
  have HEL' := Lib.hid el'
  have HRL' := Lib.hid rl'
  have HEK' := Lib.hid ek'
  have HEO' := Lib.hid eo'
  have HRO' := Lib.hid ro'
  have HOV' := Lib.hid hov'
  have hcv : cmpV (.mk k b i t l ok ov) (.mk k' b' i' t' l' ok' ov') = if k ≠ k' then numI k k' else if k = 2 then boolI b b' else if k = 3 then numI i i' else if k = 4 then textI t t' else if k = 5 then cmpL l l' else if k = 6 then cmpM ov ok ok' ov' else 0 := by
    simp only [cmpV, Val.kind, Val.b, Val.i, Val.t, Val.l, Val.ok, Val.ov]
    rfl
  rw [hcv]
  clear hsl hso el rl ek eo ro hov hd el' rl' ek' eo' ro' hov' hcv
  by_cases hkk : k = k'
  · subst hkk
    have hkb : (k != k) = false := by simp
    rw [if_neg (by simp)]
    by_cases h2 : k = 2
    · subst h2
      rw [if_pos rfl]
      cases b <;> cases b' <;>
      · go_enter Try.func36, Try.ntmps36
        go_wp2_with fail
        go_ret
        exact ⟨rfl, ((Ext.refl w).alloc _ _).alloc _ _⟩
    by_cases h3 : k = 3
    · subst h3
      rw [if_neg h2, if_pos rfl]
      clear h2
      go_enter Try.func36, Try.ntmps36
      go_wp2_with fail
      refine (HN.out _ _ _).mono ?_
      rintro e w2 ⟨rfl, rfl⟩
      go_wp2_with fail
      go_ret
      exact ⟨rfl, ((Ext.refl w).alloc _ _).alloc _ _⟩
    by_cases h4 : k = 4
    · subst h4
      rw [if_neg h2, if_neg h3, if_pos rfl]
      clear h2 h3
      have hx := fun W => texts_any W t t' bt bt'
      have HTX := Lib.hid hx
      clear hx
      go_enter Try.func36, Try.ntmps36
      go_wp2_with fail
      refine (HTX.out _).mono ?_
      rintro e w2 ⟨rfl, hx⟩
      have HX := Lib.hid hx
      clear hx
      go_wp2_with fail
      go_ret
      exact ⟨rfl, (((Ext.refl w).alloc _ _).alloc _ _).trans HX.out⟩
    rw [if_neg h2, if_neg h3, if_neg h4]
    by_cases h5 : k = 5
    · subst h5
      rw [if_pos rfl]
      clear h2 h3 h4
      have hnl : l.length ≤ 140737488355328 := by omega
      have hnl' : l'.length ≤ 140737488355328 := by omega
      go_enter Try.func36, Try.ntmps36
      go_wp2_with fail
      generalize hW0 : World.alloc (World.alloc _ _) _ = W0
      obtain ⟨hx0, hz0, hb0, hb1⟩ := two_blocks w _ _ _ _ W0 hW0
      clear hW0
      have HX0 := Lib.hid hx0
      have HB0 := Lib.hid hb0
      have HB1 := Lib.hid hb1
      clear hx0 hb0 hb1
      go_loopw [5] (fun q wr => ∃ j : Nat, q = .int .i64 j ∧ j ≤ l.length ∧ j ≤ l'.length ∧ cmpL l l' = cmpL (l.drop j) (l'.drop j) ∧ Ext W0 wr) (fun q _ => l.length - (intOf q).toNat)
      case atStart => exact ⟨0, rfl, Nat.zero_le _, Nat.zero_le _, rfl, Ext.refl W0⟩
      case round =>
        obtain ⟨j, rfl, hjl, hjl', hp, hx⟩ := hrel
        obtain ⟨-, -, -, -, q4, -⟩ := (HB0.out.ext hx).c6
        obtain ⟨-, -, -, -, r4, -⟩ := (HB1.out.ext hx).c6
        have lw0 := (HB0.out.ext hx).lt
        have lw1 := (HB1.out.ext hx).lt
        have HP := Lib.hid hp
        have HX := Lib.hid hx
        by_cases h1 : j < l.length
        · by_cases h2 : j < l'.length
          · have g1 : (j : Int) < (l.length : Int) := by omega
            have g2 : (j : Int) < (l'.length : Int) := by omega
            obtain ⟨d, hd⟩ : ∃ d, l[j]? = some d := ⟨_, List.getElem?_eq_getElem h1⟩
            obtain ⟨d', hd'⟩ : ∃ d, l'[j]? = some d := ⟨_, List.getElem?_eq_getElem h2⟩
            have HD := Lib.hid (cmpL_drop hd hd')
            have hag : Agree (Lt w.heap.size) w wr := (HX0.out.trans hx).agree fun _ h => h
            obtain ⟨sa, sc⟩ := sl
            obtain ⟨sa', sc'⟩ := sl'
            obtain ⟨rfl, hlc, hcm⟩ := hl.eq (by omega)
            obtain ⟨rfl, hlc', hcm'⟩ := hl'.eq (by omega)
            have hbl := hl.fits (by omega)
            have hbl' := hl'.fits (by omega)
            obtain ⟨v0, v1, v2, v3, v4, v5⟩ := (HEL.out j d hd).agree hag hbl
            obtain ⟨v0', v1', v2', v3', v4', v5'⟩ := (HEL'.out j d' hd').agree hag hbl'
            have hic : ∀ W, Ext wr W → Calls Try.prog 36 #[aggV d (cl j).1 (cl j).2, aggV d' (cl' j).1 (cl' j).2] W (CmpPost (cmpV d d') W) := fun W hW =>
              HI.out d d' (HSL.out j d hd) W _ _ _ _ (((HRL.out j d hd).agree (hag.trans (hW.agree fun _ h => Nat.lt_of_lt_of_le h (Nat.le_trans HX0.out.size hx.size)))).mono fun i hi => Nat.lt_of_lt_of_le hi (Nat.le_trans HX0.out.size (Nat.le_trans hx.size hW.size)))
                (((HRL'.out j d' hd').agree (hag.trans (hW.agree fun _ h => Nat.lt_of_lt_of_le h (Nat.le_trans HX0.out.size hx.size)))).mono fun i hi => Nat.lt_of_lt_of_le hi (Nat.le_trans HX0.out.size (Nat.le_trans hx.size hW.size)))
            have lb : bl < wr.heap.size := Nat.lt_of_lt_of_le hbl (Nat.le_trans HX0.out.size hx.size)
            have lb' : bl' < wr.heap.size := Nat.lt_of_lt_of_le hbl' (Nat.le_trans HX0.out.size hx.size)
            clear hp hx hd hd' hag hbl hbl'
            go_wp2_with fail
            refine wp_region_held_drew (S := (fun w' => w'.cell? ⟨w.heap.size, 4, none⟩ = some (.slice (some ⟨bl, fl, none⟩) l.length sc) ∧ w'.cell? ⟨w.heap.size + 1, 4, none⟩ = some (.slice (some ⟨bl', fl', none⟩) l'.length sc') ∧ w'.cell? ⟨bl, fl + j * 6, none⟩ = some (.int .i64 d.kind) ∧ w'.cell? ⟨bl, fl + j * 6 + 1, none⟩ = some (.bool d.b) ∧ w'.cell? ⟨bl, fl + j * 6 + 2, none⟩ = some (.int .i64 d.i) ∧ w'.cell? ⟨bl, fl + j * 6 + 3, none⟩ = some (.string d.t) ∧ w'.cell? ⟨bl, fl + j * 6 + 4, none⟩ = some (.slice (cl j).1.a d.l.length (cl j).1.c) ∧ w'.cell? ⟨bl, fl + j * 6 + 5, none⟩ = some (.slice (cl j).2.a d.ok.length (cl j).2.c) ∧ w'.cell? ⟨bl', fl' + j * 6, none⟩ = some (.int .i64 d'.kind) ∧ w'.cell? ⟨bl', fl' + j * 6 + 1, none⟩ = some (.bool d'.b) ∧ w'.cell? ⟨bl', fl' + j * 6 + 2, none⟩ = some (.int .i64 d'.i) ∧ w'.cell? ⟨bl', fl' + j * 6 + 3, none⟩ = some (.string d'.t) ∧ w'.cell? ⟨bl', fl' + j * 6 + 4, none⟩ = some (.slice (cl' j).1.a d'.l.length (cl' j).1.c) ∧ w'.cell? ⟨bl', fl' + j * 6 + 5, none⟩ = some (.slice (cl' j).2.a d'.ok.length (cl' j).2.c))) (by kernel_rfl) (⟨q4, r4, v0, v1, v2, v3, v4, v5, v0', v1', v2', v3', v4', v5'⟩) (fun hHeld => ?_)
            refine held_on (i := 0) (d := (some 61)) (v := ?_) rfl rfl (by kernel_rfl) (by kernel_rfl) (by kernel_rfl) (fun _ _ _ h => h) (by rfl) hHeld ?_ ?_
            rotate_left
            focus (intro w hSw; (try dsimp only at hSw); go_simp; first | done | with_reducible rfl)
            try simp only [Act.put, List.setIfInBounds_toArray, List.set_cons_zero, List.set_cons_succ]
            refine held_on (i := 1) (d := (some 62)) (v := ?_) rfl rfl (by kernel_rfl) (by kernel_rfl) (by kernel_rfl) (fun _ _ _ h => h) (by rfl) hHeld ?_ ?_
            rotate_left
            focus (intro w hSw; (try dsimp only at hSw); go_simp; first | done | with_reducible rfl)
            try simp only [Act.put, List.setIfInBounds_toArray, List.set_cons_zero, List.set_cons_succ]
            refine held_on (i := 2) (d := (some 63)) (v := ?_) rfl rfl (by kernel_rfl) (by kernel_rfl) (by kernel_rfl) (fun _ _ _ h => h) (by rfl) hHeld ?_ ?_
            rotate_left
            focus (intro w hSw; (try dsimp only at hSw); go_simp; first | done | with_reducible rfl)
            try simp only [Act.put, List.setIfInBounds_toArray, List.set_cons_zero, List.set_cons_succ]
            refine held_on (i := 3) (d := (some 64)) (v := ?_) rfl rfl (by kernel_rfl) (by kernel_rfl) (by kernel_rfl) (fun _ _ _ h => h) (by rfl) hHeld ?_ ?_
            rotate_left
            focus (intro w hSw; (try dsimp only at hSw); go_simp; first | done | with_reducible rfl)
            try simp only [Act.put, List.setIfInBounds_toArray, List.set_cons_zero, List.set_cons_succ]
            refine held_on (i := 4) (d := (some 65)) (v := ?_) rfl rfl (by kernel_rfl) (by kernel_rfl) (by kernel_rfl) (fun _ _ _ h => h) (by rfl) hHeld ?_ ?_
            rotate_left
            focus (intro w hSw; (try dsimp only at hSw); go_simp; first | done | with_reducible rfl)
            try simp only [Act.put, List.setIfInBounds_toArray, List.set_cons_zero, List.set_cons_succ]
            refine held_on (i := 5) (d := (some 66)) (v := ?_) rfl rfl (by kernel_rfl) (by kernel_rfl) (by kernel_rfl) (fun _ _ _ h => h) (by rfl) hHeld ?_ ?_
            rotate_left
            focus (intro w hSw; (try dsimp only at hSw); go_simp; first | done | with_reducible rfl)
            try simp only [Act.put, List.setIfInBounds_toArray, List.set_cons_zero, List.set_cons_succ]
            refine held_on (i := 6) (d := (some 67)) (v := ?_) rfl rfl (by kernel_rfl) (by kernel_rfl) (by kernel_rfl) (fun _ _ _ h => h) (by rfl) hHeld ?_ ?_
            rotate_left
            focus (intro w hSw; (try dsimp only at hSw); go_simp; first | done | with_reducible rfl)
            try simp only [Act.put, List.setIfInBounds_toArray, List.set_cons_zero, List.set_cons_succ]
            refine held_on (i := 7) (d := (some 68)) (v := ?_) rfl rfl (by kernel_rfl) (by kernel_rfl) (by kernel_rfl) (fun _ _ _ h => h) (by rfl) hHeld ?_ ?_
            rotate_left
            focus (intro w hSw; (try dsimp only at hSw); go_simp; first | done | with_reducible rfl)
            try simp only [Act.put, List.setIfInBounds_toArray, List.set_cons_zero, List.set_cons_succ]
            refine held_on (i := 8) (d := (some 69)) (v := ?_) rfl rfl (by kernel_rfl) (by kernel_rfl) (by kernel_rfl) (fun _ _ _ h => h) (by rfl) hHeld ?_ ?_
            rotate_left
            focus (intro w hSw; (try dsimp only at hSw); go_simp; first | done | with_reducible rfl)
            try simp only [Act.put, List.setIfInBounds_toArray, List.set_cons_zero, List.set_cons_succ]
            refine held_on (i := 9) (d := (some 70)) (v := ?_) rfl rfl (by kernel_rfl) (by kernel_rfl) (by kernel_rfl) (fun _ _ _ h => h) (by rfl) hHeld ?_ ?_
            rotate_left
            focus (intro w hSw; (try dsimp only at hSw); go_simp; first | done | with_reducible rfl)
            try simp only [Act.put, List.setIfInBounds_toArray, List.set_cons_zero, List.set_cons_succ]
            refine held_call (i := 10) (by kernel_rfl) rfl (by rfl) (fun K hK => ?_)
            go_simp
            (refine (hic _ ((Ext.refl wr).drew)).mono ?_; rintro e w2 ⟨rfl, hx2⟩; replace hx2 := ((Ext.refl wr).drew).trans hx2)
            refine hK.out _ _ (⟨(hx2.cell lw0).trans q4, (hx2.cell lw1).trans r4, (hx2.cell lb).trans v0, (hx2.cell lb).trans v1, (hx2.cell lb).trans v2, (hx2.cell lb).trans v3, (hx2.cell lb).trans v4, (hx2.cell lb).trans v5, (hx2.cell lb').trans v0', (hx2.cell lb').trans v1', (hx2.cell lb').trans v2', (hx2.cell lb').trans v3', (hx2.cell lb').trans v4', (hx2.cell lb').trans v5'⟩) (fun hHeld => ?_)
            clear hK K
            try simp only [Act.put, List.setIfInBounds_toArray, List.set_cons_zero, List.set_cons_succ]
            refine held_on (i := 11) (d := (some 6)) (v := ?_) rfl rfl (by kernel_rfl) (by kernel_rfl) (by kernel_rfl) (fun _ _ _ h => h) (by rfl) hHeld ?_ ?_
            rotate_left
            focus (intro w hSw; (try dsimp only at hSw); go_simp; first | done | with_reducible rfl)
            try simp only [Act.put, List.setIfInBounds_toArray, List.set_cons_zero, List.set_cons_succ]
            refine wpAnyH_done (by kernel_rfl) ?_ _
            clear hHeld hic q4 r4 v0 v1 v2 v3 v4 v5 v0' v1' v2' v3' v4' v5'
            have HX2 := Lib.hid (HX.out.trans hx2)
            clear hx2
            by_cases hc : cmpV d d' = 0
            · have hcb : (cmpV d d' != 0) = false := by simp [hc]
              have HC := Lib.hid hc
              clear hc
              go_wp2_with fail
              go_roundw
              case rel => exact ⟨j + 1, by go_num, h1, h2, by rw [HP.out, HD.out, if_neg (by simp [HC.out])], HX2.out⟩
              case measure => simp [intOf]; omega
            · have hcb : (cmpV d d' != 0) = true := bne_iff_ne.2 hc
              have HC := Lib.hid hc
              clear hc
              go_wp2_with fail
              go_ret
              rw [HP.out, HD.out, if_pos HC.out]
              exact ⟨rfl, HX0.out.trans HX2.out⟩
          · have g1 : (j : Int) < (l.length : Int) := by omega
            have g2 : ¬ (j : Int) < (l'.length : Int) := by omega
            have HE := Lib.hid (cmpL_end (l := l) (l' := l') (j := j) (by omega) hjl hjl')
            clear hp hx
            go_wp2_with fail
            refine (HN.out _ _ _).mono ?_
            rintro e w2 ⟨rfl, rfl⟩
            go_wp2_with fail
            go_ret
            rw [HP.out, HE.out]
            exact ⟨rfl, HX0.out.trans HX.out⟩
        · have g1 : ¬ (j : Int) < (l.length : Int) := by omega
          have HE := Lib.hid (cmpL_end (l := l) (l' := l') (j := j) (by omega) hjl hjl')
          clear hp hx
          go_wp2_with fail
          refine (HN.out _ _ _).mono ?_
          rintro e w2 ⟨rfl, rfl⟩
          go_wp2_with fail
          go_ret
          rw [HP.out, HE.out]
          exact ⟨rfl, HX0.out.trans HX.out⟩
    by_cases h6 : k = 6
    · subst h6
      rw [if_neg h5, if_pos rfl]
      clear h2 h3 h4 h5
      have hnl : ok.length ≤ 140737488355328 := by omega
      have hnl' : ok'.length ≤ 140737488355328 := by omega
      go_enter Try.func36, Try.ntmps36
      go_wp2_with fail
      generalize hW0 : World.alloc (World.alloc _ _) _ = W0
      obtain ⟨hx0, hz0, hb0, hb1⟩ := two_blocks w _ _ _ _ W0 hW0
      clear hW0
      have HX0 := Lib.hid hx0
      have HB0 := Lib.hid hb0
      have HB1 := Lib.hid hb1
      clear hx0 hb0 hb1
      go_loopw [7] (fun q wr => ∃ j : Nat, q = .int .i64 j ∧ j ≤ ok.length ∧ j ≤ ok'.length ∧ cmpM ov ok ok' ov' = cmpM (ov.drop j) (ok.drop j) (ok'.drop j) (ov'.drop j) ∧ Ext W0 wr) (fun q _ => ok.length - (intOf q).toNat)
      case atStart => exact ⟨0, rfl, Nat.zero_le _, Nat.zero_le _, rfl, Ext.refl W0⟩
      case round =>
        obtain ⟨j, rfl, hjl, hjl', hp, hx⟩ := hrel
        obtain ⟨-, -, -, -, -, q5⟩ := (HB0.out.ext hx).c6
        obtain ⟨-, -, -, -, -, r5⟩ := (HB1.out.ext hx).c6
        have lw0 := (HB0.out.ext hx).lt
        have lw1 := (HB1.out.ext hx).lt
        have HP := Lib.hid hp
        have HX := Lib.hid hx
        by_cases h1 : j < ok.length
        · by_cases h2 : j < ok'.length
          · have g1 : (j : Int) < (ok.length : Int) := by omega
            have g2 : (j : Int) < (ok'.length : Int) := by omega
            obtain ⟨x, hxx⟩ : ∃ d, ok[j]? = some d := ⟨_, List.getElem?_eq_getElem h1⟩
            obtain ⟨x', hxx'⟩ : ∃ d, ok'[j]? = some d := ⟨_, List.getElem?_eq_getElem h2⟩
            obtain ⟨d, hd⟩ : ∃ d, ov[j]? = some d := ⟨_, List.getElem?_eq_getElem (by rw [HOV.out]; exact h1)⟩
            obtain ⟨d', hd'⟩ : ∃ d, ov'[j]? = some d := ⟨_, List.getElem?_eq_getElem (by rw [HOV'.out]; exact h2)⟩
            have HD := Lib.hid (cmpM_drop hd hd' hxx hxx')
            have hag : Agree (Lt w.heap.size) w wr := (HX0.out.trans hx).agree fun _ h => h
            obtain ⟨sa, sc⟩ := so
            obtain ⟨sa', sc'⟩ := so'
            obtain ⟨rfl, hlc, hcm⟩ := ho.eq (by omega)
            obtain ⟨rfl, hlc', hcm'⟩ := ho'.eq (by omega)
            have hbl := ho.fits (by omega)
            have hbl' := ho'.fits (by omega)
            obtain ⟨v0, v1, v2, v3, v4, v5⟩ := (HEO.out j d hd).agree hag hbl
            obtain ⟨v0', v1', v2', v3', v4', v5'⟩ := (HEO'.out j d' hd').agree hag hbl'
            have kx := (hag.cell hbl).trans (HEK.out j x hxx).1
            have kx' := (hag.cell hbl').trans (HEK'.out j x' hxx').1
            have htx := fun W => texts_any W x x' (HEK.out j x hxx).2 (HEK'.out j x' hxx').2
            have hic : ∀ W, Ext wr W → Calls Try.prog 36 #[aggV d (co j).1 (co j).2, aggV d' (co' j).1 (co' j).2] W (CmpPost (cmpV d d') W) := fun W hW =>
              HI.out d d' (HSO.out j d hd) W _ _ _ _ (((HRO.out j d hd).agree (hag.trans (hW.agree fun _ h => Nat.lt_of_lt_of_le h (Nat.le_trans HX0.out.size hx.size)))).mono fun i hi => Nat.lt_of_lt_of_le hi (Nat.le_trans HX0.out.size (Nat.le_trans hx.size hW.size)))
                (((HRO'.out j d' hd').agree (hag.trans (hW.agree fun _ h => Nat.lt_of_lt_of_le h (Nat.le_trans HX0.out.size hx.size)))).mono fun i hi => Nat.lt_of_lt_of_le hi (Nat.le_trans HX0.out.size (Nat.le_trans hx.size hW.size)))
            have lb : bo < wr.heap.size := Nat.lt_of_lt_of_le hbl (Nat.le_trans HX0.out.size hx.size)
            have lb' : bo' < wr.heap.size := Nat.lt_of_lt_of_le hbl' (Nat.le_trans HX0.out.size hx.size)
            have HT := Lib.hid htx
            have HIC := Lib.hid hic
            clear hp hx hd hd' hag hbl hbl' hxx hxx' htx hic
            go_wp2_with fail
            refine wp_region_held_drew (S := (fun w' => w'.cell? ⟨w.heap.size, 5, none⟩ = some (.slice (some ⟨bo, fo, none⟩) ok.length sc) ∧ w'.cell? ⟨w.heap.size + 1, 5, none⟩ = some (.slice (some ⟨bo', fo', none⟩) ok'.length sc') ∧ w'.cell? ⟨bo, fo + j * 7, none⟩ = some (.string x) ∧ w'.cell? ⟨bo', fo' + j * 7, none⟩ = some (.string x'))) (by kernel_rfl) (⟨q5, r5, kx, kx'⟩) (fun hHeld => ?_)
            refine held_on (i := 0) (d := (some 98)) (v := ?_) rfl rfl (by kernel_rfl) (by kernel_rfl) (by kernel_rfl) (fun _ _ _ h => h) (by rfl) hHeld ?_ ?_
            rotate_left
            focus (intro w hSw; (try dsimp only at hSw); go_simp; first | done | with_reducible rfl)
            try simp only [Act.put, List.setIfInBounds_toArray, List.set_cons_zero, List.set_cons_succ]
            refine held_on (i := 1) (d := (some 99)) (v := ?_) rfl rfl (by kernel_rfl) (by kernel_rfl) (by kernel_rfl) (fun _ _ _ h => h) (by rfl) hHeld ?_ ?_
            rotate_left
            focus (intro w hSw; (try dsimp only at hSw); go_simp; first | done | with_reducible rfl)
            try simp only [Act.put, List.setIfInBounds_toArray, List.set_cons_zero, List.set_cons_succ]
            refine held_on (i := 2) (d := (some 100)) (v := ?_) rfl rfl (by kernel_rfl) (by kernel_rfl) (by kernel_rfl) (fun _ _ _ h => h) (by rfl) hHeld ?_ ?_
            rotate_left
            focus (intro w hSw; (try dsimp only at hSw); go_simp; first | done | with_reducible rfl)
            try simp only [Act.put, List.setIfInBounds_toArray, List.set_cons_zero, List.set_cons_succ]
            refine held_on (i := 3) (d := (some 101)) (v := ?_) rfl rfl (by kernel_rfl) (by kernel_rfl) (by kernel_rfl) (fun _ _ _ h => h) (by rfl) hHeld ?_ ?_
            rotate_left
            focus (intro w hSw; (try dsimp only at hSw); go_simp; first | done | with_reducible rfl)
            try simp only [Act.put, List.setIfInBounds_toArray, List.set_cons_zero, List.set_cons_succ]
            refine held_on (i := 4) (d := (some 102)) (v := ?_) rfl rfl (by kernel_rfl) (by kernel_rfl) (by kernel_rfl) (fun _ _ _ h => h) (by rfl) hHeld ?_ ?_
            rotate_left
            focus (intro w hSw; (try dsimp only at hSw); go_simp; first | done | with_reducible rfl)
            try simp only [Act.put, List.setIfInBounds_toArray, List.set_cons_zero, List.set_cons_succ]
            refine held_on (i := 5) (d := (some 103)) (v := ?_) rfl rfl (by kernel_rfl) (by kernel_rfl) (by kernel_rfl) (fun _ _ _ h => h) (by rfl) hHeld ?_ ?_
            rotate_left
            focus (intro w hSw; (try dsimp only at hSw); go_simp; first | done | with_reducible rfl)
            try simp only [Act.put, List.setIfInBounds_toArray, List.set_cons_zero, List.set_cons_succ]
            refine held_on (i := 6) (d := (some 104)) (v := ?_) rfl rfl (by kernel_rfl) (by kernel_rfl) (by kernel_rfl) (fun _ _ _ h => h) (by rfl) hHeld ?_ ?_
            rotate_left
            focus (intro w hSw; (try dsimp only at hSw); go_simp; first | done | with_reducible rfl)
            try simp only [Act.put, List.setIfInBounds_toArray, List.set_cons_zero, List.set_cons_succ]
            refine held_on (i := 7) (d := (some 105)) (v := ?_) rfl rfl (by kernel_rfl) (by kernel_rfl) (by kernel_rfl) (fun _ _ _ h => h) (by rfl) hHeld ?_ ?_
            rotate_left
            focus (intro w hSw; (try dsimp only at hSw); go_simp; first | done | with_reducible rfl)
            try simp only [Act.put, List.setIfInBounds_toArray, List.set_cons_zero, List.set_cons_succ]
            refine held_on (i := 8) (d := (some 106)) (v := ?_) rfl rfl (by kernel_rfl) (by kernel_rfl) (by kernel_rfl) (fun _ _ _ h => h) (by rfl) hHeld ?_ ?_
            rotate_left
            focus (intro w hSw; (try dsimp only at hSw); go_simp; first | done | with_reducible rfl)
            try simp only [Act.put, List.setIfInBounds_toArray, List.set_cons_zero, List.set_cons_succ]
            refine held_on (i := 9) (d := (some 107)) (v := ?_) rfl rfl (by kernel_rfl) (by kernel_rfl) (by kernel_rfl) (fun _ _ _ h => h) (by rfl) hHeld ?_ ?_
            rotate_left
            focus (intro w hSw; (try dsimp only at hSw); go_simp; first | done | with_reducible rfl)
            try simp only [Act.put, List.setIfInBounds_toArray, List.set_cons_zero, List.set_cons_succ]
            refine held_on (i := 10) (d := (some 108)) (v := ?_) rfl rfl (by kernel_rfl) (by kernel_rfl) (by kernel_rfl) (fun _ _ _ h => h) (by rfl) hHeld ?_ ?_
            rotate_left
            focus (intro w hSw; (try dsimp only at hSw); go_simp; first | done | with_reducible rfl)
            try simp only [Act.put, List.setIfInBounds_toArray, List.set_cons_zero, List.set_cons_succ]
            refine held_on (i := 11) (d := (some 109)) (v := ?_) rfl rfl (by kernel_rfl) (by kernel_rfl) (by kernel_rfl) (fun _ _ _ h => h) (by rfl) hHeld ?_ ?_
            rotate_left
            focus (intro w hSw; (try dsimp only at hSw); go_simp; first | done | with_reducible rfl)
            try simp only [Act.put, List.setIfInBounds_toArray, List.set_cons_zero, List.set_cons_succ]
            refine held_call (i := 12) (by kernel_rfl) rfl (by rfl) (fun K hK => ?_)
            go_simp
            (refine (HT.out _).mono ?_; rintro e w2 ⟨rfl, hx1⟩; replace hx1 := ((Ext.refl wr).drew).trans hx1)
            refine hK.out _ _ (⟨(hx1.cell lw0).trans q5, (hx1.cell lw1).trans r5, (hx1.cell lb).trans kx, (hx1.cell lb').trans kx'⟩) (fun hHeld => ?_)
            clear hK K
            try simp only [Act.put, List.setIfInBounds_toArray, List.set_cons_zero, List.set_cons_succ]
            refine held_on (i := 13) (d := (some 8)) (v := ?_) rfl rfl (by kernel_rfl) (by kernel_rfl) (by kernel_rfl) (fun _ _ _ h => h) (by rfl) hHeld ?_ ?_
            rotate_left
            focus (intro w hSw; (try dsimp only at hSw); go_simp; first | done | with_reducible rfl)
            try simp only [Act.put, List.setIfInBounds_toArray, List.set_cons_zero, List.set_cons_succ]
            refine wpAnyH_done (by kernel_rfl) ?_ _
            clear hHeld
            have HX1 := Lib.hid hx1
            have HX2 := Lib.hid (HX.out.trans hx1)
            replace q5 := (hx1.cell lw0).trans q5; replace r5 := (hx1.cell lw1).trans r5; replace v0 := (hx1.cell lb).trans v0; replace v1 := (hx1.cell lb).trans v1; replace v2 := (hx1.cell lb).trans v2; replace v3 := (hx1.cell lb).trans v3; replace v4 := (hx1.cell lb).trans v4; replace v5 := (hx1.cell lb).trans v5; replace v0' := (hx1.cell lb').trans v0'; replace v1' := (hx1.cell lb').trans v1'; replace v2' := (hx1.cell lb').trans v2'; replace v3' := (hx1.cell lb').trans v3'; replace v4' := (hx1.cell lb').trans v4'; replace v5' := (hx1.cell lb').trans v5'; replace kx := (hx1.cell lb).trans kx; replace kx' := (hx1.cell lb').trans kx'
            replace lw0 := Nat.lt_of_lt_of_le lw0 hx1.size
            replace lw1 := Nat.lt_of_lt_of_le lw1 hx1.size
            replace lb := Nat.lt_of_lt_of_le lb hx1.size
            replace lb' := Nat.lt_of_lt_of_le lb' hx1.size
            clear hx1
            by_cases ht : textI x x' = 0
            · have htb : (textI x x' != 0) = false := by simp [ht]
              have HTT := Lib.hid ht
              clear ht
              go_wp2_with fail
              refine wp_region_held_drew (S := (fun w' => w'.cell? ⟨w.heap.size, 5, none⟩ = some (.slice (some ⟨bo, fo, none⟩) ok.length sc) ∧ w'.cell? ⟨w.heap.size + 1, 5, none⟩ = some (.slice (some ⟨bo', fo', none⟩) ok'.length sc') ∧ w'.cell? ⟨bo, fo + j * 7 + 1, none⟩ = some (.int .i64 d.kind) ∧ w'.cell? ⟨bo, fo + j * 7 + 1 + 1, none⟩ = some (.bool d.b) ∧ w'.cell? ⟨bo, fo + j * 7 + 1 + 2, none⟩ = some (.int .i64 d.i) ∧ w'.cell? ⟨bo, fo + j * 7 + 1 + 3, none⟩ = some (.string d.t) ∧ w'.cell? ⟨bo, fo + j * 7 + 1 + 4, none⟩ = some (.slice (co j).1.a d.l.length (co j).1.c) ∧ w'.cell? ⟨bo, fo + j * 7 + 1 + 5, none⟩ = some (.slice (co j).2.a d.ok.length (co j).2.c) ∧ w'.cell? ⟨bo', fo' + j * 7 + 1, none⟩ = some (.int .i64 d'.kind) ∧ w'.cell? ⟨bo', fo' + j * 7 + 1 + 1, none⟩ = some (.bool d'.b) ∧ w'.cell? ⟨bo', fo' + j * 7 + 1 + 2, none⟩ = some (.int .i64 d'.i) ∧ w'.cell? ⟨bo', fo' + j * 7 + 1 + 3, none⟩ = some (.string d'.t) ∧ w'.cell? ⟨bo', fo' + j * 7 + 1 + 4, none⟩ = some (.slice (co' j).1.a d'.l.length (co' j).1.c) ∧ w'.cell? ⟨bo', fo' + j * 7 + 1 + 5, none⟩ = some (.slice (co' j).2.a d'.ok.length (co' j).2.c))) (by kernel_rfl) (⟨q5, r5, v0, v1, v2, v3, v4, v5, v0', v1', v2', v3', v4', v5'⟩) (fun hHeld => ?_)
              refine held_on (i := 0) (d := (some 114)) (v := ?_) rfl rfl (by kernel_rfl) (by kernel_rfl) (by kernel_rfl) (fun _ _ _ h => h) (by rfl) hHeld ?_ ?_
              rotate_left
              focus (intro w hSw; (try dsimp only at hSw); go_simp; first | done | with_reducible rfl)
              try simp only [Act.put, List.setIfInBounds_toArray, List.set_cons_zero, List.set_cons_succ]
              refine held_on (i := 1) (d := (some 115)) (v := ?_) rfl rfl (by kernel_rfl) (by kernel_rfl) (by kernel_rfl) (fun _ _ _ h => h) (by rfl) hHeld ?_ ?_
              rotate_left
              focus (intro w hSw; (try dsimp only at hSw); go_simp; first | done | with_reducible rfl)
              try simp only [Act.put, List.setIfInBounds_toArray, List.set_cons_zero, List.set_cons_succ]
              refine held_on (i := 2) (d := (some 116)) (v := ?_) rfl rfl (by kernel_rfl) (by kernel_rfl) (by kernel_rfl) (fun _ _ _ h => h) (by rfl) hHeld ?_ ?_
              rotate_left
              focus (intro w hSw; (try dsimp only at hSw); go_simp; first | done | with_reducible rfl)
              try simp only [Act.put, List.setIfInBounds_toArray, List.set_cons_zero, List.set_cons_succ]
              refine held_on (i := 3) (d := (some 117)) (v := ?_) rfl rfl (by kernel_rfl) (by kernel_rfl) (by kernel_rfl) (fun _ _ _ h => h) (by rfl) hHeld ?_ ?_
              rotate_left
              focus (intro w hSw; (try dsimp only at hSw); go_simp; first | done | with_reducible rfl)
              try simp only [Act.put, List.setIfInBounds_toArray, List.set_cons_zero, List.set_cons_succ]
              refine held_on (i := 4) (d := (some 118)) (v := ?_) rfl rfl (by kernel_rfl) (by kernel_rfl) (by kernel_rfl) (fun _ _ _ h => h) (by rfl) hHeld ?_ ?_
              rotate_left
              focus (intro w hSw; (try dsimp only at hSw); go_simp; first | done | with_reducible rfl)
              try simp only [Act.put, List.setIfInBounds_toArray, List.set_cons_zero, List.set_cons_succ]
              refine held_on (i := 5) (d := (some 119)) (v := ?_) rfl rfl (by kernel_rfl) (by kernel_rfl) (by kernel_rfl) (fun _ _ _ h => h) (by rfl) hHeld ?_ ?_
              rotate_left
              focus (intro w hSw; (try dsimp only at hSw); go_simp; first | done | with_reducible rfl)
              try simp only [Act.put, List.setIfInBounds_toArray, List.set_cons_zero, List.set_cons_succ]
              refine held_on (i := 6) (d := (some 120)) (v := ?_) rfl rfl (by kernel_rfl) (by kernel_rfl) (by kernel_rfl) (fun _ _ _ h => h) (by rfl) hHeld ?_ ?_
              rotate_left
              focus (intro w hSw; (try dsimp only at hSw); go_simp; first | done | with_reducible rfl)
              try simp only [Act.put, List.setIfInBounds_toArray, List.set_cons_zero, List.set_cons_succ]
              refine held_on (i := 7) (d := (some 121)) (v := ?_) rfl rfl (by kernel_rfl) (by kernel_rfl) (by kernel_rfl) (fun _ _ _ h => h) (by rfl) hHeld ?_ ?_
              rotate_left
              focus (intro w hSw; (try dsimp only at hSw); go_simp; first | done | with_reducible rfl)
              try simp only [Act.put, List.setIfInBounds_toArray, List.set_cons_zero, List.set_cons_succ]
              refine held_on (i := 8) (d := (some 122)) (v := ?_) rfl rfl (by kernel_rfl) (by kernel_rfl) (by kernel_rfl) (fun _ _ _ h => h) (by rfl) hHeld ?_ ?_
              rotate_left
              focus (intro w hSw; (try dsimp only at hSw); go_simp; first | done | with_reducible rfl)
              try simp only [Act.put, List.setIfInBounds_toArray, List.set_cons_zero, List.set_cons_succ]
              refine held_on (i := 9) (d := (some 123)) (v := ?_) rfl rfl (by kernel_rfl) (by kernel_rfl) (by kernel_rfl) (fun _ _ _ h => h) (by rfl) hHeld ?_ ?_
              rotate_left
              focus (intro w hSw; (try dsimp only at hSw); go_simp; first | done | with_reducible rfl)
              try simp only [Act.put, List.setIfInBounds_toArray, List.set_cons_zero, List.set_cons_succ]
              refine held_on (i := 10) (d := (some 124)) (v := ?_) rfl rfl (by kernel_rfl) (by kernel_rfl) (by kernel_rfl) (fun _ _ _ h => h) (by rfl) hHeld ?_ ?_
              rotate_left
              focus (intro w hSw; (try dsimp only at hSw); go_simp; first | done | with_reducible rfl)
              try simp only [Act.put, List.setIfInBounds_toArray, List.set_cons_zero, List.set_cons_succ]
              refine held_on (i := 11) (d := (some 125)) (v := ?_) rfl rfl (by kernel_rfl) (by kernel_rfl) (by kernel_rfl) (fun _ _ _ h => h) (by rfl) hHeld ?_ ?_
              rotate_left
              focus (intro w hSw; (try dsimp only at hSw); go_simp; first | done | with_reducible rfl)
              try simp only [Act.put, List.setIfInBounds_toArray, List.set_cons_zero, List.set_cons_succ]
              refine held_call (i := 12) (by kernel_rfl) rfl (by rfl) (fun K hK => ?_)
              go_simp
              (refine (HIC.out _ (HX1.out.drew)).mono ?_; rintro e w3 ⟨rfl, hx2⟩; replace hx2 := ((Ext.refl w2).drew).trans hx2)
              refine hK.out _ _ (⟨(hx2.cell lw0).trans q5, (hx2.cell lw1).trans r5, (hx2.cell lb).trans v0, (hx2.cell lb).trans v1, (hx2.cell lb).trans v2, (hx2.cell lb).trans v3, (hx2.cell lb).trans v4, (hx2.cell lb).trans v5, (hx2.cell lb').trans v0', (hx2.cell lb').trans v1', (hx2.cell lb').trans v2', (hx2.cell lb').trans v3', (hx2.cell lb').trans v4', (hx2.cell lb').trans v5'⟩) (fun hHeld => ?_)
              clear hK K
              try simp only [Act.put, List.setIfInBounds_toArray, List.set_cons_zero, List.set_cons_succ]
              refine held_on (i := 13) (d := (some 9)) (v := ?_) rfl rfl (by kernel_rfl) (by kernel_rfl) (by kernel_rfl) (fun _ _ _ h => h) (by rfl) hHeld ?_ ?_
              rotate_left
              focus (intro w hSw; (try dsimp only at hSw); go_simp; first | done | with_reducible rfl)
              try simp only [Act.put, List.setIfInBounds_toArray, List.set_cons_zero, List.set_cons_succ]
              refine wpAnyH_done (by kernel_rfl) ?_ _
              clear hHeld q5 r5 v0 v1 v2 v3 v4 v5 v0' v1' v2' v3' v4' v5' kx kx'
              have HX3 := Lib.hid (HX2.out.trans hx2)
              clear hx2
              by_cases hc : cmpV d d' = 0
              · have hcb : (cmpV d d' != 0) = false := by simp [hc]
                have HC := Lib.hid hc
                clear hc
                go_wp2_with fail
                go_roundw
                case rel => exact ⟨j + 1, by go_num, h1, h2, by rw [HP.out, HD.out, if_neg (by simp [HTT.out]), if_neg (by simp [HC.out])], HX3.out⟩
                case measure => simp [intOf]; omega
              · have hcb : (cmpV d d' != 0) = true := bne_iff_ne.2 hc
                have HC := Lib.hid hc
                clear hc
                go_wp2_with fail
                go_ret
                rw [HP.out, HD.out, if_neg (by simp [HTT.out]), if_pos HC.out]
                exact ⟨rfl, HX0.out.trans HX3.out⟩
            · have htb : (textI x x' != 0) = true := bne_iff_ne.2 ht
              have HTT := Lib.hid ht
              clear ht
              go_wp2_with fail
              go_ret
              rw [HP.out, HD.out, if_pos HTT.out]
              exact ⟨rfl, HX0.out.trans HX2.out⟩
          · have g1 : (j : Int) < (ok.length : Int) := by omega
            have g2 : ¬ (j : Int) < (ok'.length : Int) := by omega
            have HE := Lib.hid (cmpM_end (l := ov) (l' := ov') (k := ok) (k' := ok') (j := j) (by rw [HOV.out, HOV'.out]; omega) (by rw [HOV.out]; exact hjl) (by rw [HOV'.out]; exact hjl'))
            clear hp hx
            go_wp2_with fail
            refine (HN.out _ _ _).mono ?_
            rintro e w2 ⟨rfl, rfl⟩
            go_wp2_with fail
            go_ret
            rw [HP.out, HE.out, HOV.out, HOV'.out]
            exact ⟨rfl, HX0.out.trans HX.out⟩
        · have g1 : ¬ (j : Int) < (ok.length : Int) := by omega
          have HE := Lib.hid (cmpM_end (l := ov) (l' := ov') (k := ok) (k' := ok') (j := j) (by rw [HOV.out, HOV'.out]; omega) (by rw [HOV.out]; exact hjl) (by rw [HOV'.out]; exact hjl'))
          clear hp hx
          go_wp2_with fail
          refine (HN.out _ _ _).mono ?_
          rintro e w2 ⟨rfl, rfl⟩
          go_wp2_with fail
          go_ret
          rw [HP.out, HE.out, HOV.out, HOV'.out]
          exact ⟨rfl, HX0.out.trans HX.out⟩
    · rw [if_neg h5, if_neg h6]
      have g2 : (k == 2) = false := beq_eq_false_iff_ne.2 h2
      have g3 : (k == 3) = false := beq_eq_false_iff_ne.2 h3
      have g4 : (k == 4) = false := beq_eq_false_iff_ne.2 h4
      have g5 : (k == 5) = false := beq_eq_false_iff_ne.2 h5
      have g6 : (k == 6) = false := beq_eq_false_iff_ne.2 h6
      clear h2 h3 h4 h5 h6
      go_enter Try.func36, Try.ntmps36
      go_wp2_with fail
      go_ret
      exact ⟨rfl, ((Ext.refl w).alloc _ _).alloc _ _⟩
  · have hkb : (k != k') = true := bne_iff_ne.2 hkk
    rw [if_pos hkk]
    clear hkk
    go_enter Try.func36, Try.ntmps36
    go_wp2_with fail
    refine (HN.out _ _ _).mono ?_
    rintro e w2 ⟨rfl, rfl⟩
    go_wp2_with fail
    go_ret
    exact ⟨rfl, ((Ext.refl w).alloc _ _).alloc _ _⟩
end Go.Proofs.Ytohajcflklejjaa
namespace Go.Proofs.Ytohajcflklejjaa
open Go.RowKit
set_option linter.unusedVariables false
set_option linter.unusedSimpArgs false
theorem sameE_drop {l m : List Ent} {j : Nat} {a b : Ent} (ha : l[j]? = some a) (hb : m[j]? = some b) : sameE (l.drop j) (m.drop j) = (decide (a.1 = b.1) && decide (cmpV a.2 b.2 = 0) && sameE (l.drop (j + 1)) (m.drop (j + 1))) := by
  obtain ⟨h1, rfl⟩ := List.getElem?_eq_some_iff.1 ha
  obtain ⟨h2, rfl⟩ := List.getElem?_eq_some_iff.1 hb
  rw [List.drop_eq_getElem_cons h1, List.drop_eq_getElem_cons h2]
  rfl
theorem sameE_ne {l m : List Ent} (h : l.length ≠ m.length) : sameE l m = false := by
  cases hs : sameE l m with
  | false => rfl
  | true => exact absurd (sameE_len hs) h
set_option maxRecDepth 100000 in
set_option maxHeartbeats 2000000 in
theorem sameEnt_any {w : World} {s s' : Sl} {xs ys : List LE} (hs : ES w (Lt w.heap.size) s xs) (hs' : ES w (Lt w.heap.size) s' ys) :
    Calls Try.prog 22 #[.slice s.a xs.length s.c, .slice s'.a ys.length s'.c] w fun e w' => e = .returned (.bool (sameE (xs.map LE.ent) (ys.map LE.ent))) ∧ Ext w w' := by
  have hf := hs.few
  have hnl : xs.length ≤ 140737488355328 := by omega
  by_cases hlen : xs.length = ys.length
  · have HS := Lib.hid hs
    have HS' := Lib.hid hs'
    have HLEN := Lib.hid hlen
    rw [← hlen]
    clear hs hs' hlen hf
    go_enter Try.func22, Try.ntmps22
    go_wp2_with fail
    go_loopw [5] (fun q wr => ∃ j : Nat, q = .int .i64 j ∧ j ≤ xs.length ∧ sameE (xs.map LE.ent) (ys.map LE.ent) = sameE ((xs.map LE.ent).drop j) ((ys.map LE.ent).drop j) ∧ Ext w wr) (fun q _ => xs.length - (intOf q).toNat)
    case atStart => exact ⟨0, rfl, Nat.zero_le _, rfl, Ext.refl w⟩
    case round =>
      obtain ⟨j, rfl, hjl, hp, hx⟩ := hrel
      have HP := Lib.hid hp
      have HX := Lib.hid hx
      by_cases h1 : j < xs.length
      · have g1 : (j : Int) < (xs.length : Int) := by omega
        obtain ⟨x, hxx⟩ : ∃ x, xs[j]? = some x := ⟨_, List.getElem?_eq_getElem h1⟩
        obtain ⟨y, hyy⟩ : ∃ y, ys[j]? = some y := ⟨_, List.getElem?_eq_getElem (by rw [← HLEN.out]; exact h1)⟩
        have HD := Lib.hid (sameE_drop (l := xs.map LE.ent) (m := ys.map LE.ent) (a := x.ent) (b := y.ent) (by rw [List.getElem?_map, hxx]; rfl) (by rw [List.getElem?_map, hyy]; rfl))
        have e1 := HS.out.ext hx
        have e2 := HS'.out.ext hx
        obtain ⟨g, o, hg, lg, hc, hcm, kx, ⟨v0, v1, v2, v3, v4, v5⟩, rx, -⟩ := e1.at hxx
        obtain ⟨g', o', hg', lg', hc', hcm', ky, ⟨v0', v1', v2', v3', v4', v5'⟩, ry, -⟩ := e2.at hyy
        rw [← HLEN.out] at hc'
        obtain ⟨sa, sc⟩ := s
        obtain ⟨sa', sc'⟩ := s'
        dsimp only at hg hg' hc hc' hcm hcm'
        subst hg hg'
        have hic : ∀ W, Ext wr W → Calls Try.prog 36 #[aggV x.v x.sl x.so, aggV y.v y.sl y.so] W (CmpPost (cmpV x.v y.v) W) := fun W hW =>
          cmp02_any _ x.v y.v (Nat.le_refl _) W _ _ _ _ ((rx.agree (hW.agree fun _ h => h)).mono fun i hi => Nat.lt_of_lt_of_le hi hW.size) ((ry.agree (hW.agree fun _ h => h)).mono fun i hi => Nat.lt_of_lt_of_le hi hW.size)
        have HIC := Lib.hid hic
        clear hp hx hxx hyy e1 e2 rx ry hic
        have lg : g < wr.heap.size := lg
        have lg' : g' < wr.heap.size := lg'
        by_cases hk : x.k = y.k
        · have hkb : (x.k.toList == y.k.toList) = true := by rw [hk]; simp
          have HK := Lib.hid hk
          go_wp2_with fail
          refine wp_region_held_drew (S := (fun w' => w'.cell? ⟨g, o + j * 7, none⟩ = some (.string x.k) ∧ w'.cell? ⟨g', o' + j * 7, none⟩ = some (.string y.k) ∧ w'.cell? ⟨g, o + j * 7 + 1, none⟩ = some (.int .i64 x.v.kind) ∧ w'.cell? ⟨g, o + j * 7 + 1 + 1, none⟩ = some (.bool x.v.b) ∧ w'.cell? ⟨g, o + j * 7 + 1 + 2, none⟩ = some (.int .i64 x.v.i) ∧ w'.cell? ⟨g, o + j * 7 + 1 + 3, none⟩ = some (.string x.v.t) ∧ w'.cell? ⟨g, o + j * 7 + 1 + 4, none⟩ = some (.slice x.sl.a x.v.l.length x.sl.c) ∧ w'.cell? ⟨g, o + j * 7 + 1 + 5, none⟩ = some (.slice x.so.a x.v.ok.length x.so.c) ∧ w'.cell? ⟨g', o' + j * 7 + 1, none⟩ = some (.int .i64 y.v.kind) ∧ w'.cell? ⟨g', o' + j * 7 + 1 + 1, none⟩ = some (.bool y.v.b) ∧ w'.cell? ⟨g', o' + j * 7 + 1 + 2, none⟩ = some (.int .i64 y.v.i) ∧ w'.cell? ⟨g', o' + j * 7 + 1 + 3, none⟩ = some (.string y.v.t) ∧ w'.cell? ⟨g', o' + j * 7 + 1 + 4, none⟩ = some (.slice y.sl.a y.v.l.length y.sl.c) ∧ w'.cell? ⟨g', o' + j * 7 + 1 + 5, none⟩ = some (.slice y.so.a y.v.ok.length y.so.c))) (by kernel_rfl) (⟨kx, ky, v0, v1, v2, v3, v4, v5, v0', v1', v2', v3', v4', v5'⟩) (fun hHeld => ?_)
          refine held_on (i := 0) (d := (some 17)) (v := ?_) rfl rfl (by kernel_rfl) (by kernel_rfl) (by kernel_rfl) (fun _ _ _ h => h) (by rfl) hHeld ?_ ?_
          rotate_left
          focus (intro w hSw; (try dsimp only at hSw); go_simp; first | done | with_reducible rfl)
          try simp only [Act.put, List.setIfInBounds_toArray, List.set_cons_zero, List.set_cons_succ]
          refine held_on (i := 1) (d := (some 18)) (v := ?_) rfl rfl (by kernel_rfl) (by kernel_rfl) (by kernel_rfl) (fun _ _ _ h => h) (by rfl) hHeld ?_ ?_
          rotate_left
          focus (intro w hSw; (try dsimp only at hSw); go_simp; first | done | with_reducible rfl)
          try simp only [Act.put, List.setIfInBounds_toArray, List.set_cons_zero, List.set_cons_succ]
          refine held_on (i := 2) (d := (some 19)) (v := ?_) rfl rfl (by kernel_rfl) (by kernel_rfl) (by kernel_rfl) (fun _ _ _ h => h) (by rfl) hHeld ?_ ?_
          rotate_left
          focus (intro w hSw; (try dsimp only at hSw); go_simp; first | done | with_reducible rfl)
          try simp only [Act.put, List.setIfInBounds_toArray, List.set_cons_zero, List.set_cons_succ]
          refine held_on (i := 3) (d := (some 20)) (v := ?_) rfl rfl (by kernel_rfl) (by kernel_rfl) (by kernel_rfl) (fun _ _ _ h => h) (by rfl) hHeld ?_ ?_
          rotate_left
          focus (intro w hSw; (try dsimp only at hSw); go_simp; first | done | with_reducible rfl)
          try simp only [Act.put, List.setIfInBounds_toArray, List.set_cons_zero, List.set_cons_succ]
          refine held_on (i := 4) (d := (some 21)) (v := ?_) rfl rfl (by kernel_rfl) (by kernel_rfl) (by kernel_rfl) (fun _ _ _ h => h) (by rfl) hHeld ?_ ?_
          rotate_left
          focus (intro w hSw; (try dsimp only at hSw); go_simp; first | done | with_reducible rfl)
          try simp only [Act.put, List.setIfInBounds_toArray, List.set_cons_zero, List.set_cons_succ]
          refine held_on (i := 5) (d := (some 22)) (v := ?_) rfl rfl (by kernel_rfl) (by kernel_rfl) (by kernel_rfl) (fun _ _ _ h => h) (by rfl) hHeld ?_ ?_
          rotate_left
          focus (intro w hSw; (try dsimp only at hSw); go_simp; first | done | with_reducible rfl)
          try simp only [Act.put, List.setIfInBounds_toArray, List.set_cons_zero, List.set_cons_succ]
          refine held_on (i := 6) (d := (some 23)) (v := ?_) rfl rfl (by kernel_rfl) (by kernel_rfl) (by kernel_rfl) (fun _ _ _ h => h) (by rfl) hHeld ?_ ?_
          rotate_left
          focus (intro w hSw; (try dsimp only at hSw); go_simp; first | done | with_reducible rfl)
          try simp only [Act.put, List.setIfInBounds_toArray, List.set_cons_zero, List.set_cons_succ]
          refine held_on (i := 7) (d := (some 24)) (v := ?_) rfl rfl (by kernel_rfl) (by kernel_rfl) (by kernel_rfl) (fun _ _ _ h => h) (by rfl) hHeld ?_ ?_
          rotate_left
          focus (intro w hSw; (try dsimp only at hSw); go_simp; first | done | with_reducible rfl)
          try simp only [Act.put, List.setIfInBounds_toArray, List.set_cons_zero, List.set_cons_succ]
          refine held_on (i := 8) (d := (some 25)) (v := ?_) rfl rfl (by kernel_rfl) (by kernel_rfl) (by kernel_rfl) (fun _ _ _ h => h) (by rfl) hHeld ?_ ?_
          rotate_left
          focus (intro w hSw; (try dsimp only at hSw); go_simp; first | done | with_reducible rfl)
          try simp only [Act.put, List.setIfInBounds_toArray, List.set_cons_zero, List.set_cons_succ]
          refine held_on (i := 9) (d := (some 26)) (v := ?_) rfl rfl (by kernel_rfl) (by kernel_rfl) (by kernel_rfl) (fun _ _ _ h => h) (by rfl) hHeld ?_ ?_
          rotate_left
          focus (intro w hSw; (try dsimp only at hSw); go_simp; first | done | with_reducible rfl)
          try simp only [Act.put, List.setIfInBounds_toArray, List.set_cons_zero, List.set_cons_succ]
          refine held_on (i := 10) (d := (some 27)) (v := ?_) rfl rfl (by kernel_rfl) (by kernel_rfl) (by kernel_rfl) (fun _ _ _ h => h) (by rfl) hHeld ?_ ?_
          rotate_left
          focus (intro w hSw; (try dsimp only at hSw); go_simp; first | done | with_reducible rfl)
          try simp only [Act.put, List.setIfInBounds_toArray, List.set_cons_zero, List.set_cons_succ]
          refine held_on (i := 11) (d := (some 28)) (v := ?_) rfl rfl (by kernel_rfl) (by kernel_rfl) (by kernel_rfl) (fun _ _ _ h => h) (by rfl) hHeld ?_ ?_
          rotate_left
          focus (intro w hSw; (try dsimp only at hSw); go_simp; first | done | with_reducible rfl)
          try simp only [Act.put, List.setIfInBounds_toArray, List.set_cons_zero, List.set_cons_succ]
          refine held_on (i := 12) (d := (some 29)) (v := ?_) rfl rfl (by kernel_rfl) (by kernel_rfl) (by kernel_rfl) (fun _ _ _ h => h) (by rfl) hHeld ?_ ?_
          rotate_left
          focus (intro w hSw; (try dsimp only at hSw); go_simp; first | done | with_reducible rfl)
          try simp only [Act.put, List.setIfInBounds_toArray, List.set_cons_zero, List.set_cons_succ]
          refine held_on (i := 13) (d := (some 30)) (v := ?_) rfl rfl (by kernel_rfl) (by kernel_rfl) (by kernel_rfl) (fun _ _ _ h => h) (by rfl) hHeld ?_ ?_
          rotate_left
          focus (intro w hSw; (try dsimp only at hSw); go_simp; first | done | with_reducible rfl)
          try simp only [Act.put, List.setIfInBounds_toArray, List.set_cons_zero, List.set_cons_succ]
          refine held_on (i := 14) (d := (some 31)) (v := ?_) rfl rfl (by kernel_rfl) (by kernel_rfl) (by kernel_rfl) (fun _ _ _ h => h) (by rfl) hHeld ?_ ?_
          rotate_left
          focus (intro w hSw; (try dsimp only at hSw); go_simp; first | done | with_reducible rfl)
          try simp only [Act.put, List.setIfInBounds_toArray, List.set_cons_zero, List.set_cons_succ]
          refine held_on (i := 15) (d := (some 32)) (v := ?_) rfl rfl (by kernel_rfl) (by kernel_rfl) (by kernel_rfl) (fun _ _ _ h => h) (by rfl) hHeld ?_ ?_
          rotate_left
          focus (intro w hSw; (try dsimp only at hSw); go_simp; first | done | with_reducible rfl)
          try simp only [Act.put, List.setIfInBounds_toArray, List.set_cons_zero, List.set_cons_succ]
          refine held_on (i := 16) (d := (some 33)) (v := ?_) rfl rfl (by kernel_rfl) (by kernel_rfl) (by kernel_rfl) (fun _ _ _ h => h) (by rfl) hHeld ?_ ?_
          rotate_left
          focus (intro w hSw; (try dsimp only at hSw); go_simp; first | done | with_reducible rfl)
          try simp only [Act.put, List.setIfInBounds_toArray, List.set_cons_zero, List.set_cons_succ]
          refine held_on (i := 17) (d := (some 34)) (v := ?_) rfl rfl (by kernel_rfl) (by kernel_rfl) (by kernel_rfl) (fun _ _ _ h => h) (by rfl) hHeld ?_ ?_
          rotate_left
          focus (intro w hSw; (try dsimp only at hSw); go_simp; first | done | with_reducible rfl)
          try simp only [Act.put, List.setIfInBounds_toArray, List.set_cons_zero, List.set_cons_succ]
          refine held_on (i := 18) (d := (some 35)) (v := ?_) rfl rfl (by kernel_rfl) (by kernel_rfl) (by kernel_rfl) (fun _ _ _ h => h) (by rfl) hHeld ?_ ?_
          rotate_left
          focus (intro w hSw; (try dsimp only at hSw); go_simp; first | done | with_reducible rfl)
          try simp only [Act.put, List.setIfInBounds_toArray, List.set_cons_zero, List.set_cons_succ]
          refine held_on (i := 19) (d := (some 36)) (v := ?_) rfl rfl (by kernel_rfl) (by kernel_rfl) (by kernel_rfl) (fun _ _ _ h => h) (by rfl) hHeld ?_ ?_
          rotate_left
          focus (intro w hSw; (try dsimp only at hSw); go_simp; first | done | with_reducible rfl)
          try simp only [Act.put, List.setIfInBounds_toArray, List.set_cons_zero, List.set_cons_succ]
          refine held_on (i := 20) (d := (some 37)) (v := ?_) rfl rfl (by kernel_rfl) (by kernel_rfl) (by kernel_rfl) (fun _ _ _ h => h) (by rfl) hHeld ?_ ?_
          rotate_left
          focus (intro w hSw; (try dsimp only at hSw); go_simp; first | done | with_reducible rfl)
          try simp only [Act.put, List.setIfInBounds_toArray, List.set_cons_zero, List.set_cons_succ]
          refine held_on (i := 21) (d := (some 38)) (v := ?_) rfl rfl (by kernel_rfl) (by kernel_rfl) (by kernel_rfl) (fun _ _ _ h => h) (by rfl) hHeld ?_ ?_
          rotate_left
          focus (intro w hSw; (try dsimp only at hSw); go_simp; first | done | with_reducible rfl)
          try simp only [Act.put, List.setIfInBounds_toArray, List.set_cons_zero, List.set_cons_succ]
          refine held_call (i := 22) (by kernel_rfl) rfl (by rfl) (fun K hK => ?_)
          go_simp
          (refine (HIC.out _ ((Ext.refl wr).drew)).mono ?_; rintro e w2 ⟨rfl, hx2⟩; replace hx2 := ((Ext.refl wr).drew).trans hx2)
          refine hK.out _ _ (⟨(hx2.cell lg).trans kx, (hx2.cell lg').trans ky, (hx2.cell lg).trans v0, (hx2.cell lg).trans v1, (hx2.cell lg).trans v2, (hx2.cell lg).trans v3, (hx2.cell lg).trans v4, (hx2.cell lg).trans v5, (hx2.cell lg').trans v0', (hx2.cell lg').trans v1', (hx2.cell lg').trans v2', (hx2.cell lg').trans v3', (hx2.cell lg').trans v4', (hx2.cell lg').trans v5'⟩) (fun hHeld => ?_)
          clear hK K
          try simp only [Act.put, List.setIfInBounds_toArray, List.set_cons_zero, List.set_cons_succ]
          refine held_on (i := 23) (d := (some 40)) (v := ?_) rfl rfl (by kernel_rfl) (by kernel_rfl) (by kernel_rfl) (fun _ _ _ h => h) (by rfl) hHeld ?_ ?_
          rotate_left
          focus (intro w hSw; (try dsimp only at hSw); go_simp; first | done | with_reducible rfl)
          try simp only [Act.put, List.setIfInBounds_toArray, List.set_cons_zero, List.set_cons_succ]
          refine held_on (i := 24) (d := (some 41)) (v := ?_) rfl rfl (by kernel_rfl) (by kernel_rfl) (by kernel_rfl) (fun _ _ _ h => h) (by rfl) hHeld ?_ ?_
          rotate_left
          focus (intro w hSw; (try dsimp only at hSw); go_simp; first | done | with_reducible rfl)
          try simp only [Act.put, List.setIfInBounds_toArray, List.set_cons_zero, List.set_cons_succ]
          refine wpAnyH_done (by kernel_rfl) ?_ _
          have HX2 := Lib.hid (HX.out.trans hx2)
          clear hx2 hHeld hkb hk kx ky v0 v1 v2 v3 v4 v5 v0' v1' v2' v3' v4' v5'
          by_cases hc : cmpV x.v y.v = 0
          · have hcb : (cmpV x.v y.v != 0) = false := by simp [hc]
            have HC := Lib.hid hc
            clear hc
            go_wp2_with fail
            go_roundw
            case rel => exact ⟨j + 1, by go_num, h1, by rw [HP.out, HD.out, decide_eq_true (show x.ent.1 = y.ent.1 from HK.out), decide_eq_true (show cmpV x.ent.2 y.ent.2 = 0 from HC.out)]; rfl, HX2.out⟩
            case measure => simp [intOf]; omega
          · have hcb : (cmpV x.v y.v != 0) = true := bne_iff_ne.2 hc
            have HC := Lib.hid hc
            clear hc
            go_wp2_with fail
            go_ret
            rw [HP.out, HD.out, decide_eq_false (show ¬ cmpV x.ent.2 y.ent.2 = 0 from HC.out)]
            exact ⟨by simp, HX2.out⟩
        · have hkb : (x.k.toList == y.k.toList) = false := by rw [beq_toList]; simp [hk]
          have HK := Lib.hid hk
          go_wp2_with fail
          refine wp_region_held_drew (S := (fun w' => w'.cell? ⟨g, o + j * 7, none⟩ = some (.string x.k) ∧ w'.cell? ⟨g', o' + j * 7, none⟩ = some (.string y.k) ∧ w'.cell? ⟨g, o + j * 7 + 1, none⟩ = some (.int .i64 x.v.kind) ∧ w'.cell? ⟨g, o + j * 7 + 1 + 1, none⟩ = some (.bool x.v.b) ∧ w'.cell? ⟨g, o + j * 7 + 1 + 2, none⟩ = some (.int .i64 x.v.i) ∧ w'.cell? ⟨g, o + j * 7 + 1 + 3, none⟩ = some (.string x.v.t) ∧ w'.cell? ⟨g, o + j * 7 + 1 + 4, none⟩ = some (.slice x.sl.a x.v.l.length x.sl.c) ∧ w'.cell? ⟨g, o + j * 7 + 1 + 5, none⟩ = some (.slice x.so.a x.v.ok.length x.so.c) ∧ w'.cell? ⟨g', o' + j * 7 + 1, none⟩ = some (.int .i64 y.v.kind) ∧ w'.cell? ⟨g', o' + j * 7 + 1 + 1, none⟩ = some (.bool y.v.b) ∧ w'.cell? ⟨g', o' + j * 7 + 1 + 2, none⟩ = some (.int .i64 y.v.i) ∧ w'.cell? ⟨g', o' + j * 7 + 1 + 3, none⟩ = some (.string y.v.t) ∧ w'.cell? ⟨g', o' + j * 7 + 1 + 4, none⟩ = some (.slice y.sl.a y.v.l.length y.sl.c) ∧ w'.cell? ⟨g', o' + j * 7 + 1 + 5, none⟩ = some (.slice y.so.a y.v.ok.length y.so.c))) (by kernel_rfl) (⟨kx, ky, v0, v1, v2, v3, v4, v5, v0', v1', v2', v3', v4', v5'⟩) (fun hHeld => ?_)
          refine held_on (i := 0) (d := (some 17)) (v := ?_) rfl rfl (by kernel_rfl) (by kernel_rfl) (by kernel_rfl) (fun _ _ _ h => h) (by rfl) hHeld ?_ ?_
          rotate_left
          focus (intro w hSw; (try dsimp only at hSw); go_simp; first | done | with_reducible rfl)
          try simp only [Act.put, List.setIfInBounds_toArray, List.set_cons_zero, List.set_cons_succ]
          refine held_on (i := 1) (d := (some 18)) (v := ?_) rfl rfl (by kernel_rfl) (by kernel_rfl) (by kernel_rfl) (fun _ _ _ h => h) (by rfl) hHeld ?_ ?_
          rotate_left
          focus (intro w hSw; (try dsimp only at hSw); go_simp; first | done | with_reducible rfl)
          try simp only [Act.put, List.setIfInBounds_toArray, List.set_cons_zero, List.set_cons_succ]
          refine held_on (i := 2) (d := (some 19)) (v := ?_) rfl rfl (by kernel_rfl) (by kernel_rfl) (by kernel_rfl) (fun _ _ _ h => h) (by rfl) hHeld ?_ ?_
          rotate_left
          focus (intro w hSw; (try dsimp only at hSw); go_simp; first | done | with_reducible rfl)
          try simp only [Act.put, List.setIfInBounds_toArray, List.set_cons_zero, List.set_cons_succ]
          refine held_on (i := 3) (d := (some 20)) (v := ?_) rfl rfl (by kernel_rfl) (by kernel_rfl) (by kernel_rfl) (fun _ _ _ h => h) (by rfl) hHeld ?_ ?_
          rotate_left
          focus (intro w hSw; (try dsimp only at hSw); go_simp; first | done | with_reducible rfl)
          try simp only [Act.put, List.setIfInBounds_toArray, List.set_cons_zero, List.set_cons_succ]
          refine held_on (i := 4) (d := (some 21)) (v := ?_) rfl rfl (by kernel_rfl) (by kernel_rfl) (by kernel_rfl) (fun _ _ _ h => h) (by rfl) hHeld ?_ ?_
          rotate_left
          focus (intro w hSw; (try dsimp only at hSw); go_simp; first | done | with_reducible rfl)
          try simp only [Act.put, List.setIfInBounds_toArray, List.set_cons_zero, List.set_cons_succ]
          refine held_on (i := 5) (d := (some 22)) (v := ?_) rfl rfl (by kernel_rfl) (by kernel_rfl) (by kernel_rfl) (fun _ _ _ h => h) (by rfl) hHeld ?_ ?_
          rotate_left
          focus (intro w hSw; (try dsimp only at hSw); go_simp; first | done | with_reducible rfl)
          try simp only [Act.put, List.setIfInBounds_toArray, List.set_cons_zero, List.set_cons_succ]
          refine held_on (i := 6) (d := (some 23)) (v := ?_) rfl rfl (by kernel_rfl) (by kernel_rfl) (by kernel_rfl) (fun _ _ _ h => h) (by rfl) hHeld ?_ ?_
          rotate_left
          focus (intro w hSw; (try dsimp only at hSw); go_simp; first | done | with_reducible rfl)
          try simp only [Act.put, List.setIfInBounds_toArray, List.set_cons_zero, List.set_cons_succ]
          refine held_on (i := 7) (d := (some 24)) (v := ?_) rfl rfl (by kernel_rfl) (by kernel_rfl) (by kernel_rfl) (fun _ _ _ h => h) (by rfl) hHeld ?_ ?_
          rotate_left
          focus (intro w hSw; (try dsimp only at hSw); go_simp; first | done | with_reducible rfl)
          try simp only [Act.put, List.setIfInBounds_toArray, List.set_cons_zero, List.set_cons_succ]
          refine held_on (i := 8) (d := (some 25)) (v := ?_) rfl rfl (by kernel_rfl) (by kernel_rfl) (by kernel_rfl) (fun _ _ _ h => h) (by rfl) hHeld ?_ ?_
          rotate_left
          focus (intro w hSw; (try dsimp only at hSw); go_simp; first | done | with_reducible rfl)
          try simp only [Act.put, List.setIfInBounds_toArray, List.set_cons_zero, List.set_cons_succ]
          refine held_on (i := 9) (d := (some 26)) (v := ?_) rfl rfl (by kernel_rfl) (by kernel_rfl) (by kernel_rfl) (fun _ _ _ h => h) (by rfl) hHeld ?_ ?_
          rotate_left
          focus (intro w hSw; (try dsimp only at hSw); go_simp; first | done | with_reducible rfl)
          try simp only [Act.put, List.setIfInBounds_toArray, List.set_cons_zero, List.set_cons_succ]
          refine held_on (i := 10) (d := (some 27)) (v := ?_) rfl rfl (by kernel_rfl) (by kernel_rfl) (by kernel_rfl) (fun _ _ _ h => h) (by rfl) hHeld ?_ ?_
          rotate_left
          focus (intro w hSw; (try dsimp only at hSw); go_simp; first | done | with_reducible rfl)
          try simp only [Act.put, List.setIfInBounds_toArray, List.set_cons_zero, List.set_cons_succ]
          refine held_on (i := 11) (d := (some 28)) (v := ?_) rfl rfl (by kernel_rfl) (by kernel_rfl) (by kernel_rfl) (fun _ _ _ h => h) (by rfl) hHeld ?_ ?_
          rotate_left
          focus (intro w hSw; (try dsimp only at hSw); go_simp; first | done | with_reducible rfl)
          try simp only [Act.put, List.setIfInBounds_toArray, List.set_cons_zero, List.set_cons_succ]
          refine held_off (i := 12) (d := (some 29)) rfl rfl (by kernel_rfl) (by kernel_rfl) (by kernel_rfl) (fun _ _ _ h => h) (by rfl) hHeld ?_
          try simp only [Act.put, List.setIfInBounds_toArray, List.set_cons_zero, List.set_cons_succ]
          refine held_off (i := 13) (d := (some 30)) rfl rfl (by kernel_rfl) (by kernel_rfl) (by kernel_rfl) (fun _ _ _ h => h) (by rfl) hHeld ?_
          try simp only [Act.put, List.setIfInBounds_toArray, List.set_cons_zero, List.set_cons_succ]
          refine held_off (i := 14) (d := (some 31)) rfl rfl (by kernel_rfl) (by kernel_rfl) (by kernel_rfl) (fun _ _ _ h => h) (by rfl) hHeld ?_
          try simp only [Act.put, List.setIfInBounds_toArray, List.set_cons_zero, List.set_cons_succ]
          refine held_off (i := 15) (d := (some 32)) rfl rfl (by kernel_rfl) (by kernel_rfl) (by kernel_rfl) (fun _ _ _ h => h) (by rfl) hHeld ?_
          try simp only [Act.put, List.setIfInBounds_toArray, List.set_cons_zero, List.set_cons_succ]
          refine held_off (i := 16) (d := (some 33)) rfl rfl (by kernel_rfl) (by kernel_rfl) (by kernel_rfl) (fun _ _ _ h => h) (by rfl) hHeld ?_
          try simp only [Act.put, List.setIfInBounds_toArray, List.set_cons_zero, List.set_cons_succ]
          refine held_off (i := 17) (d := (some 34)) rfl rfl (by kernel_rfl) (by kernel_rfl) (by kernel_rfl) (fun _ _ _ h => h) (by rfl) hHeld ?_
          try simp only [Act.put, List.setIfInBounds_toArray, List.set_cons_zero, List.set_cons_succ]
          refine held_off (i := 18) (d := (some 35)) rfl rfl (by kernel_rfl) (by kernel_rfl) (by kernel_rfl) (fun _ _ _ h => h) (by rfl) hHeld ?_
          try simp only [Act.put, List.setIfInBounds_toArray, List.set_cons_zero, List.set_cons_succ]
          refine held_off (i := 19) (d := (some 36)) rfl rfl (by kernel_rfl) (by kernel_rfl) (by kernel_rfl) (fun _ _ _ h => h) (by rfl) hHeld ?_
          try simp only [Act.put, List.setIfInBounds_toArray, List.set_cons_zero, List.set_cons_succ]
          refine held_off (i := 20) (d := (some 37)) rfl rfl (by kernel_rfl) (by kernel_rfl) (by kernel_rfl) (fun _ _ _ h => h) (by rfl) hHeld ?_
          try simp only [Act.put, List.setIfInBounds_toArray, List.set_cons_zero, List.set_cons_succ]
          refine held_off (i := 21) (d := (some 38)) rfl rfl (by kernel_rfl) (by kernel_rfl) (by kernel_rfl) (fun _ _ _ h => h) (by rfl) hHeld ?_
          try simp only [Act.put, List.setIfInBounds_toArray, List.set_cons_zero, List.set_cons_succ]
          refine held_off (i := 22) (d := (some 39)) rfl rfl (by kernel_rfl) (by kernel_rfl) (by kernel_rfl) (fun _ _ _ h => h) (by rfl) hHeld ?_
          try simp only [Act.put, List.setIfInBounds_toArray, List.set_cons_zero, List.set_cons_succ]
          refine held_off (i := 23) (d := (some 40)) rfl rfl (by kernel_rfl) (by kernel_rfl) (by kernel_rfl) (fun _ _ _ h => h) (by rfl) hHeld ?_
          try simp only [Act.put, List.setIfInBounds_toArray, List.set_cons_zero, List.set_cons_succ]
          refine held_on (i := 24) (d := (some 41)) (v := ?_) rfl rfl (by kernel_rfl) (by kernel_rfl) (by kernel_rfl) (fun _ _ _ h => h) (by rfl) hHeld ?_ ?_
          rotate_left
          focus (intro w hSw; (try dsimp only at hSw); go_simp; first | done | with_reducible rfl)
          try simp only [Act.put, List.setIfInBounds_toArray, List.set_cons_zero, List.set_cons_succ]
          refine wpAnyH_done (by kernel_rfl) ?_ _
          clear hHeld hkb hk kx ky v0 v1 v2 v3 v4 v5 v0' v1' v2' v3' v4' v5'
          go_wp2_with fail
          go_ret
          rw [HP.out, HD.out, decide_eq_false (show ¬ x.ent.1 = y.ent.1 from HK.out)]
          exact ⟨by simp, HX.out.drew⟩
      · have g1 : ¬ (j : Int) < (xs.length : Int) := by omega
        have hee : sameE ((xs.map LE.ent).drop j) ((ys.map LE.ent).drop j) = true := by
          rw [List.drop_eq_nil_iff.2 (by rw [List.length_map]; omega), List.drop_eq_nil_iff.2 (by rw [List.length_map, ← HLEN.out]; omega)]
          rfl
        have HE := Lib.hid hee
        clear hp hx hee
        go_wp2_with fail
        go_ret
        rw [HP.out, HE.out]
        exact ⟨rfl, HX.out⟩
  · have hne : (((xs.length : Int)) != ((ys.length : Int))) = true := bne_iff_ne.2 (by omega)
    rw [sameE_ne (by rw [List.length_map, List.length_map]; exact hlen)]
    clear hs hs' hlen hf hnl
    go_enter Try.func22, Try.ntmps22
    go_wp2_with fail
    go_ret
    exact ⟨rfl, Ext.refl w⟩
end Go.Proofs.Ytohajcflklejjaa
namespace Go.Proofs.Ytohajcflklejjaa
open Go.RowKit
set_option linter.unusedVariables false
set_option linter.unusedSimpArgs false
abbrev listV (n : Int) : Val := .mk 5 false 0 ByteArray.empty [.mk 3 false n ByteArray.empty [] [] []] [] []
structure OneT (k : ByteArray) (n : Int) (T : RT) (F : Nat → Prop) (w : World) : Prop where
  tree : IsT w F T
  ok : OkR T
  ents : entsT T = [(k, listV n)]
theorem OneT.agree {k : ByteArray} {n : Int} {T : RT} {F : Nat → Prop} {w w' : World} (h : OneT k n T F w) (ha : Agree F w w') : OneT k n T F w' := ⟨h.tree.agree ha, h.ok, h.ents⟩
end Go.Proofs.Ytohajcflklejjaa
namespace Go.Proofs.Ytohajcflklejjaa
open Go.RowKit
set_option linter.unusedVariables false
set_option linter.unusedSimpArgs false
end Go.Proofs.Ytohajcflklejjaa
namespace Go.Proofs.Ytohajcflklejjaa
open Go.RowKit
set_option linter.unusedVariables false
set_option linter.unusedSimpArgs false
structure MapAt (H : Nat → Prop) (w : World) (M : Nat) (es : List Ent) : Prop where
  hm : H M
  ex : ∃ s xs, Blk w M 42 #[.slice s.a xs.length s.c] ∧ ES w (NH H w) s xs ∧ xs.map LE.ent = es
theorem MapAt.st {H G : Nat → Prop} {w w' : World} {M : Nat} {es : List Ent} (h : MapAt H w M es) (k : St G w w') (hG : ∀ b, G b → H b) (hM : ¬ G M) : MapAt H w' M es := by
  obtain ⟨hm, s, xs, hb, hs, hx⟩ := h
  exact ⟨hm, s, xs, k.blk hb hM, (hs.agree (fun b hb => k.block b hb.1 fun hh => hb.2 (hG b hh))).mono fun i hi => ⟨Nat.lt_of_lt_of_le hi.1 k.size, hi.2⟩, hx⟩
theorem MapAt.ext {H : Nat → Prop} {w w' : World} {M : Nat} {es : List Ent} (h : MapAt H w M es) (k : Ext w w') : MapAt H w' M es :=
  h.st (k.st fun _ => False) (fun _ hb => hb.elim) (fun hb => hb)
theorem MapAt.more {H G : Nat → Prop} {w : World} {M : Nat} {es : List Ent} (h : MapAt H w M es) (hH : ∀ b, H b → G b) (hG : ∀ b, b < w.heap.size → G b → H b) : MapAt G w M es := by
  obtain ⟨hm, s, xs, hb, hs, hx⟩ := h
  exact ⟨hH M hm, s, xs, hb, hs.mono fun i hi => ⟨hi.1, fun hg => hi.2 (hG i hi.1 hg)⟩, hx⟩
set_option maxRecDepth 100000 in
set_option maxHeartbeats 800000 in
theorem at07 {H : Nat → Prop} {w : World} {M : Nat} {es : List Ent} (h : MapAt H w M es) (k : ByteArray) : Calls Try.prog 38 #[.pointer (some ⟨M, 0, none⟩), .string k] w fun e w' =>
    e = .returned (.tuple #[.int .i64 (posE es k), .bool (decide ((es[posE es k]?).map Prod.fst = some k))]) ∧ ∃ q, w' = w.drewN q := by
  obtain ⟨-, s, xs, hb, hs, rfl⟩ := h
  have h0 : w.cell? ⟨M, 0, none⟩ = some (.slice s.a xs.length s.c) := hb.cell 0
  have hfew := hs.few
  have HS := Lib.hid hs
  clear hb hs
  go_enter Try.func38, Try.ntmps38
  go_wp2_with fail
  have hnl : xs.length ≤ 140737488355328 := by omega
  go_loopw [6] (fun q wr => ∃ j : Nat, q = .int .i64 j ∧ j ≤ xs.length ∧ (∀ i x, i < j → xs[i]? = some x → klt x.k k = true) ∧ wr = w) (fun q _ => xs.length - (intOf q).toNat)
  case atStart => exact ⟨0, rfl, Nat.zero_le _, fun i x hi => absurd hi (Nat.not_lt_zero _), rfl⟩
  case round =>
    obtain ⟨j, rfl, hj, hp, rfl⟩ := hrel
    have HP := Lib.hid hp
    clear hp
    by_cases h1 : j < xs.length
    · have g1 : (j : Int) < (xs.length : Int) := by omega
      obtain ⟨x, hx⟩ : ∃ x, xs[j]? = some x := ⟨_, List.getElem?_eq_getElem h1⟩
      obtain ⟨g, o, hg, lg, hc, hcm, kx, -, -, -⟩ := HS.out.at hx
      obtain ⟨sa, sc⟩ := s
      dsimp only at hg hc hcm
      subst hg
      have HXX := Lib.hid hx
      clear hx
      cases hkl : klt x.k k with
      | true =>
        have hb1 : Op.bytesLess x.k.toList k.toList = true := hkl
        go_wp2_with fail
        go_roundw
        case rel =>
          refine ⟨j + 1, by go_num, h1, fun i y hi hy => ?_, by trivial⟩
          rcases Nat.lt_or_eq_of_le (Nat.le_of_lt_succ hi) with h | rfl
          · exact HP.out i y h hy
          · rw [HXX.out] at hy; cases hy; exact hkl
        case measure => simp [intOf]; omega
      | false =>
        have hb1 : Op.bytesLess x.k.toList k.toList = false := hkl
        have hpos : posE (xs.map LE.ent) k = j := posE_of (by rw [List.length_map]; exact hj) (fun i e hi he => by
          rw [List.getElem?_map] at he
          cases hy : xs[i]? with
          | none => rw [hy] at he; cases he
          | some y => rw [hy] at he; cases he; exact HP.out i y hi hy) (fun e he => by
          rw [List.getElem?_map, HXX.out] at he; cases he; exact hkl)
        have HPOS := Lib.hid hpos
        clear hpos
        go_wp2_with fail
        go_quiet (fail)
        go_wp2_with fail
        refine bodyPost_ret (v := .tuple #[.int .i64 j, .bool (x.k.toList == k.toList)]) (by simp [results, Try.results38, go_sem]) rfl ?_
        rw [HPOS.out, List.getElem?_map, HXX.out]
        refine ⟨?_, _, rfl⟩
        rw [beq_toList]
        simp [LE.ent]
    · have g1 : ¬ (j : Int) < (xs.length : Int) := by omega
      obtain rfl : j = xs.length := by omega
      have hpos : posE (xs.map LE.ent) k = xs.length := posE_of (by rw [List.length_map]; exact Nat.le_refl _) (fun i e hi he => by
        rw [List.getElem?_map] at he
        cases hy : xs[i]? with
        | none => rw [hy] at he; cases he
        | some y => rw [hy] at he; cases he; exact HP.out i y hi hy) (fun e he => by
        rw [List.getElem?_map, List.getElem?_eq_none (Nat.le_refl _)] at he; cases he)
      have HPOS := Lib.hid hpos
      clear hpos
      go_wp2_with fail
      refine bodyPost_ret (v := .tuple #[.int .i64 xs.length, .bool false]) (by simp [results, Try.results38, go_sem]) rfl ?_
      rw [HPOS.out]
      exact ⟨by simp, 0, rfl⟩
theorem at_get {es : List Ent} (hs : Sorted es) (k : ByteArray) : decide ((es[posE es k]?).map Prod.fst = some k) = (getE es k).isSome := by
  rw [getE_pos hs]
  cases hx : es[posE es k]? with
  | none => simp
  | some e => by_cases hk : e.1 = k <;> simp [hk]
def Get7Post (o : Option Val) (w : World) (e : Ending) (w' : World) : Prop :=
  ∃ sl so, e = .returned (.tuple #[aggV (o.getD zeroV) sl so, .bool o.isSome]) ∧ Ext w w' ∧ RV w' (Lt w.heap.size) (o.getD zeroV) sl so
set_option maxRecDepth 100000 in
set_option maxHeartbeats 800000 in
theorem get7 {H : Nat → Prop} {w : World} {M : Nat} {es : List Ent} (h : MapAt H w M es) (hso : Sorted es) (k : ByteArray) : Calls Try.prog 30 #[.pointer (some ⟨M, 0, none⟩), .string k] w (Get7Post (getE es k) w) := by
  have hb4 := Blk.new w 51 #[.int .i64 0, .bool false, .int .i64 0, .string ByteArray.empty, .slice none 0 0, .slice none 0 0]
  have hx1 : Ext w (w.alloc (.cells #[.int .i64 0, .bool false, .int .i64 0, .string ByteArray.empty, .slice none 0 0, .slice none 0 0] 51)) := (Ext.refl w).alloc _ _
  have hat := at07 (h.ext hx1) k
  rw [at_get hso] at hat
  have hge := getE_pos hso k
  obtain ⟨-, s, xs, hb, hs, rfl⟩ := h
  have HS := Lib.hid hs
  have HB := Lib.hid hb
  have HX1 := Lib.hid hx1
  have HAT := Lib.hid hat
  obtain ⟨p, hp⟩ : ∃ p, posE (xs.map LE.ent) k = p := ⟨_, rfl⟩
  rw [hp] at hge
  have HP := Lib.hid hp
  have hfew := hs.few
  clear hb hs hat hx1 hp
  cases hg : getE (xs.map LE.ent) k with
  | none =>
    rw [hg] at HAT
    clear hge hg
    go_enter Try.func30, Try.ntmps30
    go_wp2_with fail
    refine HAT.out.mono ?_
    rintro e w2 ⟨rfl, q, rfl⟩
    go_wp2_with fail
    have hbq := hb4.ext ((Ext.refl _).drewN q)
    obtain ⟨c0, c1, c2, c3, c4, c5⟩ := hbq.c6
    have HXQ := Lib.hid (HX1.out.drewN q)
    generalize World.drewN _ q = W2 at *
    clear HAT hbq
    refine bodyPost_ret (v := .tuple #[.agg #[.int .i64 0, .bool false, .int .i64 0, .string ⟨#[]⟩, .slice none 0 0, .slice none 0 0], .bool false]) (by simp [results, Try.results30, go_sem, c0, c1, c2, c3, c4, c5]) rfl ?_
    exact ⟨Sl.none, Sl.none, rfl, HXQ.out.putV (b := w.heap.size) (Nat.le_refl _) 0 zeroV Sl.none Sl.none, RV.flat _ _ _ _ _ _ (by decide) (by decide) (by decide)⟩
  | some v =>
    have hpx : ∃ x, xs[p]? = some x ∧ x.v = v := by
      rw [hg, List.getElem?_map] at hge
      cases hx : xs[p]? with
      | none => rw [hx] at hge; cases hge
      | some x =>
        rw [hx] at hge
        simp only [Option.map_some, Option.bind_some] at hge
        by_cases hk : x.ent.1 = k
        · rw [if_pos hk] at hge; cases hge; exact ⟨x, rfl, rfl⟩
        · rw [if_neg hk] at hge; cases hge
    obtain ⟨x, hx, rfl⟩ := hpx
    rw [hg, HP.out] at HAT
    have hpl : p < xs.length := (List.getElem?_eq_some_iff.1 hx).1
    have hpi : (p : Int) < (xs.length : Int) := by omega
    have hbM := HB.out.ext HX1.out
    obtain ⟨g, o, hsg, lg, hcc, hcm, -, ⟨v0, v1, v2, v3, v4, v5⟩, rx, -⟩ := (HS.out.mono (G := Lt w.heap.size) fun i hi => hi.1).at hx
    obtain ⟨sa, sc⟩ := s
    dsimp only at hsg hcc hcm
    subst hsg
    have HRX := Lib.hid rx
    have lg : g < w.heap.size := lg
    have lM := HB.out.lt
    have m0 : w.cell? ⟨M, 0, none⟩ = some (.slice (some ⟨g, o, none⟩) xs.length sc) := HB.out.cell 0
    clear hge hg hx hbM rx
    go_enter Try.func30, Try.ntmps30
    go_wp2_with fail
    refine HAT.out.mono ?_
    rintro e w2 ⟨rfl, q, rfl⟩
    have hbq := hb4.ext ((Ext.refl _).drewN q)
    obtain ⟨c0, c1, c2, c3, c4, c5⟩ := hbq.c6
    have hxq := HX1.out.drewN q
    replace m0 := (hxq.cell lM).trans m0
    replace v0 := (hxq.cell lg).trans v0
    replace v1 := (hxq.cell lg).trans v1
    replace v2 := (hxq.cell lg).trans v2
    replace v3 := (hxq.cell lg).trans v3
    replace v4 := (hxq.cell lg).trans v4
    replace v5 := (hxq.cell lg).trans v5
    have l2 := hbq.lt
    have f4 := hbq.frozen
    have HXQ := Lib.hid hxq
    generalize World.drewN _ q = W2 at *
    clear HAT hbq hxq
    go_wp2_with fail
    refine bodyPost_ret (v := .tuple #[aggV x.v x.sl x.so, .bool true]) (by simp [results, Try.results30, go_sem, c0, c1, c2, c3, c4, c5]) rfl ?_
    exact ⟨x.sl, x.so, rfl, HXQ.out.putV (b := w.heap.size) (Nat.le_refl _) 0 x.v x.sl x.so, (HRX.out.agree (HXQ.out.agree fun _ h => h)).agree (putV_agree W2 w.heap.size 0 x.v x.sl x.so (F := Lt w.heap.size) (Nat.lt_irrefl _))⟩
end Go.Proofs.Ytohajcflklejjaa
namespace Go.Proofs.Ytohajcflklejjaa
open Go.RowKit
set_option linter.unusedVariables false
set_option linter.unusedSimpArgs false
def Put7Post (H : Nat → Prop) (M : Nat) (es : List Ent) (w : World) (e : Ending) (w' : World) : Prop :=
  (∃ r, e = .returned r) ∧ MapAt H w' M es ∧ St (fun b => b = M) w w'
theorem Wr.cell0 {w w' w'' : World} {row : Option Nat} (h : Wr w' w'' row) (hx : Ext w w') {M : Nat} {o : Nat} (hn : row ≠ some M) (hl : M < w.heap.size) : w''.cell? ⟨M, o, none⟩ = w.cell? ⟨M, o, none⟩ ∧ M < w''.heap.size :=
  ⟨((h.agree (F := fun b => b = M) (fun i hi => by subst hi; exact Nat.lt_of_lt_of_le hl hx.size) (fun k hk e => hn (e ▸ hk))).cell rfl).trans (hx.cell hl), Nat.lt_of_lt_of_le hl (Nat.le_trans hx.size h.grown.size)⟩
def put7L (xs : List LE) (p q : Nat) (x : LE) : List LE := (xs.take p ++ [x]) ++ xs.drop q
theorem put7L_es {xs : List LE} {k : ByteArray} (hs : Sorted (xs.map LE.ent)) (x : LE) (hx : x.k = k) {p q : Nat} (hp : posE (xs.map LE.ent) k = p) (hq : q = if (((xs.map LE.ent)[p]?).map Prod.fst = some k) then p + 1 else p) : (put7L xs p q x).map LE.ent = insE (xs.map LE.ent) k x.v := by
  rw [insE_pos hs, hp, put7L]
  subst hx hq
  simp only [List.map_append, List.map_take, List.map_drop, List.map_cons, List.map_nil, List.append_assoc, List.singleton_append]
  congr 2
  split <;> rfl
theorem put7_end {H : Nat → Prop} {w w3 : World} {M : Nat} {s s3 : Sl} {xs : List LE} {p q : Nat} {x : LE} {es : List Ent} (hm : H M) (hH : ∀ b, H b → b < w.heap.size) (hb : Blk w M 42 #[.slice s.a xs.length s.c]) (hs : ES w (NH H w) s xs) (hv : RV w (NH H w) x.v x.sl x.so) (hk : x.k.size ≤ maxLen)
    (hx : Ext w w3) (hown : w3.ownsRow w.heap.size 63 7 (.slice s3.a (put7L xs p q x).length s3.c) (put7L xs p q x).length (flatE (put7L xs p q x))) (hf : (put7L xs p q x).length * 104 ≤ 140737488355328) (he : (put7L xs p q x).map LE.ent = es) :
    MapAt H (w3.setCell ⟨M, 0, none⟩ (.slice s3.a (put7L xs p q x).length s3.c)) M es ∧ St (fun b => b = M) w (w3.setCell ⟨M, 0, none⟩ (.slice s3.a (put7L xs p q x).length s3.c)) := by
  have hMw := hb.lt
  have hst : St (fun b => b = M) w (w3.setCell ⟨M, 0, none⟩ (.slice s3.a (put7L xs p q x).length s3.c)) := (hx.st (fun b => b = M)).set (p := ⟨M, 0, none⟩) (.inr rfl) _
  have hag : Agree (NH H w) w (w3.setCell ⟨M, 0, none⟩ (.slice s3.a (put7L xs p q x).length s3.c)) := hst.agree.mono fun i hi => ⟨hi.1, fun e => hi.2 (e ▸ hm)⟩
  have hup : ∀ i, NH H w i → NH H (w3.setCell ⟨M, 0, none⟩ (.slice s3.a (put7L xs p q x).length s3.c)) i := fun i hi => ⟨Nat.lt_of_lt_of_le hi.1 hst.size, hi.2⟩
  have hag3 : Agree (In w.heap.size w3.heap.size) w3 (w3.setCell ⟨M, 0, none⟩ (.slice s3.a (put7L xs p q x).length s3.c)) := Agree.setCell w3 ⟨M, 0, none⟩ _ (fun h => by have h1 : w.heap.size ≤ M := h.1; omega)
  refine ⟨⟨hm, s3, put7L xs p q x, ?_, ⟨?_, ?_, hf⟩, he⟩, hst⟩
  · exact (hb.ext hx).set_ 0 _
  · exact ((Rd.of_own hown).agree hag3).mono fun i hi => ⟨by rw [World.size_setCell]; exact hi.2, fun h => by have := hH i h; have := hi.1; omega⟩
  · intro y hy
    have hy : y ∈ (xs.take p ++ [x]) ++ xs.drop q := hy
    have hor : y ∈ xs ∨ y = x := by
      rcases List.mem_append.1 hy with hy | hy
      · rcases List.mem_append.1 hy with hy | hy
        · exact .inl (List.mem_of_mem_take hy)
        · exact .inr (List.mem_singleton.1 hy)
      · exact .inl (List.mem_of_mem_drop hy)
    rcases hor with hy | rfl
    · exact ⟨((hs.vals y hy).1.agree hag).mono hup, (hs.vals y hy).2⟩
    · exact ⟨(hv.agree hag).mono hup, hk⟩
section
variable {P : Program} {w : World}
theorem wpList_append_0 {ops : Array Oper} {rest : List Oper} {o : Oper} {a : Act} {Q : Exit → Act → World → Prop} (hgd : o.guard = none) (s' x : Operand) (t : TypeId)
    (ho : o.op = .call { callee := .builtin .append, args := #[s', x], argTypes := #[t, t] })
    (base : Nat) (e : TypeId) (i : TypeInfo) (z : Value) (size bytes : Nat) (ht : P.underlying t = some (.slice e)) (hi : P.info? e = some i) (hz : i.zero = some z)
    (hsize : i.size = size) (hby : i.bytes = bytes) (hzs : z.cells.size = size) (hsz : 0 < size) (hs : a.eval s' = .slice none 0 0)
    (F : Nat → Prop) (sx : Sl) (m : Nat) (news : List Value) (hx : a.eval x = .slice sx.a m sx.c) (hsrc : Rd w F size sx m news) (h1 : ∀ u ∈ news, u.oneCell' = true)
    (h63 : m ≤ maxLen) (hbytes : m * bytes ≤ 140737488355328) (hbase : base ≤ w.heap.size)
    (h : ∀ (s' : Sl) (w' : World), w'.ownsRow base e size (.slice s'.a m s'.c) m news → Ext w w' → wpList P ops Q rest (a.put o.dst (.slice s'.a m s'.c)) w') : wpList P ops Q (o :: rest) a w :=
  wpList_append_x w hgd s' x t ho base e i z size bytes ht hi hz hsize hby hzs hsz Sl.none 0 [] hs (World.ownsRow_nil _ _ _ _) F sx m news hx hsrc h1 (by omega) (by rw [Nat.zero_add]; exact hbytes) hbase fun s2 w2 h2 h3 _ => by
    rw [Nat.zero_add, List.nil_append] at h2
    rw [Nat.zero_add]
    exact h s2 w2 h2 ((Ext.refl w).wr h3 (fun i hi => by cases hi))
end
set_option maxRecDepth 100000 in
set_option maxHeartbeats 2000000 in
theorem put7_any {H : Nat → Prop} {w : World} {M : Nat} {es : List Ent} (h : MapAt H w M es) (hH : ∀ b, H b → b < w.heap.size) (hso : Sorted es) (hc : es.length ≤ 1000000) {k : ByteArray} (hk : k.size ≤ maxLen) {v : Val} {sl so : Sl} (hv : RV w (NH H w) v sl so) :
    Calls Try.prog 24 #[.pointer (some ⟨M, 0, none⟩), .string k, aggV v sl so] w (Put7Post H M (insE es k v) w) := by
  obtain ⟨i0, hi, hz0, hz1, hz2⟩ := info_parts Try.infoEntry
  have hx1 : Ext w (w.alloc (.cells #[.int .i64 v.kind, .bool v.b, .int .i64 v.i, .string v.t, .slice sl.a v.l.length sl.c, .slice so.a v.ok.length so.c] 51)) := (Ext.refl w).alloc _ _
  have hb5 := Blk.new w 51 #[.int .i64 v.kind, .bool v.b, .int .i64 v.i, .string v.t, .slice sl.a v.l.length sl.c, .slice so.a v.ok.length so.c]
  have hat := at07 (h.ext hx1) k
  have hle := posE_le es k
  obtain ⟨hm, s, xs, hb, hs, hxs⟩ := h
  obtain ⟨p, hp⟩ : ∃ p, posE es k = p := ⟨_, rfl⟩
  obtain ⟨f, hf⟩ : ∃ f, decide ((es[p]?).map Prod.fst = some k) = f := ⟨_, rfl⟩
  rw [hp, hf] at hat
  have hlen : xs.length = es.length := by rw [← hxs, List.length_map]
  obtain ⟨q, hq⟩ : ∃ q, (if f = true then p + 1 else p) = q := ⟨_, rfl⟩
  have hqe : q = if ((es[p]?).map Prod.fst = some k) then p + 1 else p := by
    rw [← hq, ← hf]; simp only [decide_eq_true_eq]
  have hql : q ≤ xs.length := by
    rw [hqe]
    split
    · rename_i he
      have : p < es.length := by
        rcases Nat.lt_or_ge p es.length with h | h
        · exact h
        · rw [List.getElem?_eq_none h] at he; cases he
      omega
    · omega
  have hpl : p ≤ xs.length := by omega
  have hins : ∀ x : LE, x.k = k → x.v = v → (put7L xs p q x).map LE.ent = insE es k v := fun x h1 h2 => by
    have := put7L_es (xs := xs) (k := k) (by rw [hxs]; exact hso) x h1 (p := p) (q := q) (by rw [hxs]; exact hp) (by rw [hxs]; exact hqe)
    rw [this, hxs, h2]
  have hput : ∀ x : LE, (put7L xs p q x).length = p + 1 + (xs.length - q) := fun x => by
    simp only [put7L, List.length_append, List.length_take, List.length_drop, List.length_cons, List.length_nil]; omega
  obtain ⟨x, hxk, hxv, hxl, hxo⟩ : ∃ x : LE, x.k = k ∧ x.v = v ∧ x.sl = sl ∧ x.so = so := ⟨⟨k, v, sl, so⟩, rfl, rfl, rfl, rfl⟩
  have he := hins x hxk hxv
  have hend := fun (w3 : World) (s3 : Sl) => put7_end (w3 := w3) (s3 := s3) (p := p) (q := q) (x := x) (es := insE es k v) hm hH hb hs (by rw [hxv, hxl, hxo]; exact hv) (by rw [hxk]; exact hk)
  have hrd := fun (W : World) (hW : Ext w W) => (hs.mono (G := Lt w.heap.size) fun i hi => hi.1).agree (hW.agree fun _ h => h)
  have h0 : w.cell? ⟨M, 0, none⟩ = some (.slice s.a xs.length s.c) := hb.cell 0
  have lM := hb.lt
  have hfz := hb.frozen 0
  have HEND := Lib.hid hend
  have HRD := Lib.hid hrd
  have HE := Lib.hid he
  have HPUT := Lib.hid (hput x)
  have HAT := Lib.hid hat
  have HX1 := Lib.hid hx1
  have HQ := Lib.hid hq
  have hl1 : xs.length ≤ 1000000 := by omega
  have hcs : LE.cells x = [.string k, .int .i64 v.kind, .bool v.b, .int .i64 v.i, .string v.t, .slice sl.a v.l.length sl.c, .slice so.a v.ok.length so.c] := by
    rw [LE.cells, hxk, hxv, hxl, hxo]
  have HCS := Lib.hid hcs
  have hrd1 : ∀ W : World, Rd (W.alloc (.cells #[.string k, .int .i64 v.kind, .bool v.b, .int .i64 v.i, .string v.t, .slice sl.a v.l.length sl.c, .slice so.a v.ok.length so.c] 63)) (fun b => b = W.heap.size) 7 ⟨some ⟨W.heap.size, 0, none⟩, 1⟩ 1 [.string k, .int .i64 v.kind, .bool v.b, .int .i64 v.i, .string v.t, .slice sl.a v.l.length sl.c, .slice so.a v.ok.length so.c] := fun W => Rd.block (Blk.new W 63 #[.string k, .int .i64 v.kind, .bool v.b, .int .i64 v.i, .string v.t, .slice sl.a v.l.length sl.c, .slice so.a v.ok.length so.c]) (by decide) rfl
  have hone1 : ∀ u ∈ [Value.string k, .int .i64 v.kind, .bool v.b, .int .i64 v.i, .string v.t, .slice sl.a v.l.length sl.c, .slice so.a v.ok.length so.c], u.oneCell' = true := by rw [← hcs]; exact LE.one x
  have HRD1 := Lib.hid hrd1
  have HONE1 := Lib.hid hone1
  clear hrd1 hone1
  have hsp := hs.rd
  obtain ⟨gs, os, hsa, -, -⟩ := hsp
  clear hend hrd he hins hput hat hx1 hq hqe hf hxs hlen hs hb hcs hv
  generalize hn : xs.length = n at hsa
  cases hsa with
  | nil =>
    obtain rfl : p = 0 := by omega
    obtain rfl : xs = [] := List.eq_nil_of_length_eq_zero hn
    cases f with
    | true =>
      exfalso
      have h1 : 0 + 1 = q := by have := HQ.out; simpa using this
      simp at hql; omega
    | false =>
      obtain rfl : 0 = q := by have := HQ.out; simpa using this
      go_enter Try.func24, Try.ntmps24
      go_wp2_with fail
      refine HAT.out.mono ?_
      rintro e w2 ⟨rfl, nq, rfl⟩
      have hx2 := HX1.out.drewN nq
      replace h0 := (hx2.cell lM).trans h0
      have hb5' := hb5.ext ((Ext.refl _).drewN nq)
      obtain ⟨c0, c1, c2, c3, c4, c5⟩ := hb5'.c6
      have l5 := hb5'.lt
      have lMW : M < (World.drewN (w.alloc (.cells #[.int .i64 v.kind, .bool v.b, .int .i64 v.i, .string v.t, .slice sl.a v.l.length sl.c, .slice so.a v.ok.length so.c] 51)) nq).heap.size := Nat.lt_of_lt_of_le lM hx2.size
      generalize World.drewN _ nq = W2 at *
      have hw2 := hx2.size
      have hrp : Rd W2 (Lt w.heap.size) 7 Sl.none 0 (flatE (([] : List LE).take 0)) := by have := ((HRD.out W2 hx2).take hpl).rd; rwa [List.length_take, Nat.min_eq_left hpl] at this
      have HRP := Lib.hid hrp
      have HX2 := Lib.hid hx2
      have h63a : 0 ≤ maxLen := by unfold maxLen; omega
      have hbya : 0 * 104 ≤ 140737488355328 := by omega
      have h63b : 0 + 1 ≤ maxLen := by unfold maxLen; omega
      have hbyb : (0 + 1) * 104 ≤ 140737488355328 := by omega
      have hrq : ∀ W, Ext w W → Rd W (Lt w.heap.size) 7 Sl.none 0 [] := fun W hW => Rd.nil _ _ _
      have HRQ := Lib.hid hrq
      have h63c : 0 + 1 + 0 ≤ maxLen := by unfold maxLen; omega
      have hbyc : (0 + 1 + 0) * 104 ≤ 140737488355328 := by omega
      have hqi : ((0 : Nat) : Int) ≤ (([] : List LE).length : Int) := by omega
      have hpi : (0 : Int) ≤ (([] : List LE).length : Int) := by omega
      clear hrp hx2 HAT hb5 hb5' HX1 hrq
      go_wp2_with (first
        | (at_builtin; refine wpList_append_0 rfl (.tmp 15) (.tmp 21) 22 rfl w.heap.size 63 i0 _ 7 104 Try.underlying22 hi hz0 hz1 hz2 rfl (by decide) rfl (Lt w.heap.size) Sl.none 0 (flatE (([] : List LE).take 0)) rfl HRP.out (flatE_one _) h63a hbya hw2 ?_; intro s1 w3 hown1 hx3; have c0 := (hx3.cell l5).trans c0; have c1 := (hx3.cell l5).trans c1; have c2 := (hx3.cell l5).trans c2; have c3 := (hx3.cell l5).trans c3; have c4 := (hx3.cell l5).trans c4; have c5 := (hx3.cell l5).trans c5; have h0 := (hx3.cell lMW).trans h0; have l5 := Nat.lt_of_lt_of_le l5 hx3.size; have lMW := Nat.lt_of_lt_of_le lMW hx3.size; have HO1 := Lib.hid hown1; have HX3 := Lib.hid (HX2.out.trans hx3); have hw3 := HX3.out.size; have HO1A := Lib.hid (own_agree (w' := w3.alloc (.cells #[.string k, .int .i64 v.kind, .bool v.b, .int .i64 v.i, .string v.t, .slice sl.a v.l.length sl.c, .slice so.a v.ok.length so.c] 63)) (s := s1) hown1 (F := Lt w3.heap.size) (((Ext.refl w3).alloc _ _).agree fun _ h => h) fun b hb => (own_row (s := s1) hown1 hb).2); clear hown1 hx3)
        | (at_builtin; refine wpList_append_x _ rfl (.tmp 23) (.tmp 27) 22 rfl w.heap.size 63 i0 _ 7 104 Try.underlying22 hi hz0 hz1 hz2 rfl (by decide) s1 0 (flatE (([] : List LE).take 0)) rfl HO1A.out (fun b => b = w3.heap.size) ⟨some ⟨w3.heap.size, 0, none⟩, 1⟩ 1 [.string k, .int .i64 v.kind, .bool v.b, .int .i64 v.i, .string v.t, .slice sl.a v.l.length sl.c, .slice so.a v.ok.length so.c] rfl (HRD1.out w3) HONE1.out h63b hbyb (Nat.le_trans hw3 ((Ext.refl w3).alloc _ _).size) ?_; intro s2 w4 hown2 hwr2 hs2; have hx4 := ((Ext.refl w3).alloc #[.string k, .int .i64 v.kind, .bool v.b, .int .i64 v.i, .string v.t, .slice sl.a v.l.length sl.c, .slice so.a v.ok.length so.c] 63); have hn4 := hwr2.cell0 (o := 0) hx4 (fun e => by have := (own_row (s := s1) HO1.out e).1; omega) lMW; have h0 := hn4.1.trans h0; have lMW := hn4.2; have HO2 := Lib.hid hown2; have HX4 := Lib.hid ((HX3.out.trans hx4).wr hwr2 (fun i hi => (own_row (s := s1) HO1.out hi).1)); have hw4 := HX4.out.size; clear hown2 hwr2 hs2 hx4 hn4)
        | (at_builtin; refine wpList_append_x _ rfl (.tmp 33) (.tmp 39) 22 rfl w.heap.size 63 i0 _ 7 104 Try.underlying22 hi hz0 hz1 hz2 rfl (by decide) s2 (0 + 1) (flatE (([] : List LE).take 0) ++ [.string k, .int .i64 v.kind, .bool v.b, .int .i64 v.i, .string v.t, .slice sl.a v.l.length sl.c, .slice so.a v.ok.length so.c]) rfl HO2.out (Lt w.heap.size) Sl.none 0 [] rfl (HRQ.out w4 HX4.out) (by simp) h63c hbyc hw4 ?_; intro s3 w5 hown3 hwr3 hs3; have hn5 := hwr3.cell0 (o := 0) (Ext.refl w4) (fun e => by have := (own_row (s := s2) HO2.out e).1; omega) lMW; have h0 := hn5.1.trans h0; have lMW := hn5.2; have f0 := (HX4.out.wr hwr3 (fun i hi => (own_row (s := s2) HO2.out hi).1)).frozen (o := 0) lM; rw [hfz] at f0; have HO3 := Lib.hid hown3; have HX5 := Lib.hid (HX4.out.wr hwr3 (fun i hi => (own_row (s := s2) HO2.out hi).1)); clear hown3 hwr3 hs3 hn5))
      have hfl : flatE (put7L ([] : List LE) 0 (0) x) = (flatE (([] : List LE).take 0) ++ [.string k, .int .i64 v.kind, .bool v.b, .int .i64 v.i, .string v.t, .slice sl.a v.l.length sl.c, .slice so.a v.ok.length so.c]) ++ flatE (([] : List LE).drop (0)) := by rw [put7L, flatE_app, flatE_app, show flatE [x] = LE.cells x from by simp [flatE], HCS.out]
      have hpu : (put7L ([] : List LE) 0 (0) x).length = 0 + 1 + (([] : List LE).length - (0)) := HPUT.out
      have hzz : ([] : List LE).length - (0) = 0 := by omega
      have hdd : ([] : List LE).drop (0) = [] := List.drop_eq_nil_iff.2 (by omega)
      rw [hzz] at hpu
      rw [hdd] at hfl
      have hfin := HEND.out w5 s3 HX5.out (by rw [hpu, hfl]; exact HO3.out) (by rw [hpu]; omega) HE.out
      rw [hpu] at hfin
      go_end0
      exact ⟨⟨_, rfl⟩, hfin⟩
  | zero ad =>
    obtain rfl : p = 0 := by omega
    obtain rfl : xs = [] := List.eq_nil_of_length_eq_zero hn
    cases f with
    | true =>
      exfalso
      have h1 : 0 + 1 = q := by have := HQ.out; simpa using this
      simp at hql; omega
    | false =>
      obtain rfl : 0 = q := by have := HQ.out; simpa using this
      go_enter Try.func24, Try.ntmps24
      go_wp2_with fail
      refine HAT.out.mono ?_
      rintro e w2 ⟨rfl, nq, rfl⟩
      have hx2 := HX1.out.drewN nq
      replace h0 := (hx2.cell lM).trans h0
      have hb5' := hb5.ext ((Ext.refl _).drewN nq)
      obtain ⟨c0, c1, c2, c3, c4, c5⟩ := hb5'.c6
      have l5 := hb5'.lt
      have lMW : M < (World.drewN (w.alloc (.cells #[.int .i64 v.kind, .bool v.b, .int .i64 v.i, .string v.t, .slice sl.a v.l.length sl.c, .slice so.a v.ok.length so.c] 51)) nq).heap.size := Nat.lt_of_lt_of_le lM hx2.size
      generalize World.drewN _ nq = W2 at *
      have hw2 := hx2.size
      have hrp : Rd W2 (Lt w.heap.size) 7 ⟨some ad, 0⟩ 0 (flatE (([] : List LE).take 0)) := by have := ((HRD.out W2 hx2).take hpl).rd; rwa [List.length_take, Nat.min_eq_left hpl] at this
      have HRP := Lib.hid hrp
      have HX2 := Lib.hid hx2
      have h63a : 0 ≤ maxLen := by unfold maxLen; omega
      have hbya : 0 * 104 ≤ 140737488355328 := by omega
      have h63b : 0 + 1 ≤ maxLen := by unfold maxLen; omega
      have hbyb : (0 + 1) * 104 ≤ 140737488355328 := by omega
      have hrq : ∀ W, Ext w W → Rd W (Lt w.heap.size) 7 ⟨some ad, 0⟩ 0 [] := fun W hW => ⟨0, 0, .zero _ _ _, rfl, fun j u hj => by simp at hj⟩
      have HRQ := Lib.hid hrq
      have h63c : 0 + 1 + 0 ≤ maxLen := by unfold maxLen; omega
      have hbyc : (0 + 1 + 0) * 104 ≤ 140737488355328 := by omega
      have hqi : ((0 : Nat) : Int) ≤ (([] : List LE).length : Int) := by omega
      have hpi : (0 : Int) ≤ (([] : List LE).length : Int) := by omega
      clear hrp hx2 HAT hb5 hb5' HX1 hrq
      go_wp2_with (first
        | (at_builtin; refine wpList_append_0 rfl (.tmp 15) (.tmp 21) 22 rfl w.heap.size 63 i0 _ 7 104 Try.underlying22 hi hz0 hz1 hz2 rfl (by decide) rfl (Lt w.heap.size) ⟨some ad, 0⟩ 0 (flatE (([] : List LE).take 0)) rfl HRP.out (flatE_one _) h63a hbya hw2 ?_; intro s1 w3 hown1 hx3; have c0 := (hx3.cell l5).trans c0; have c1 := (hx3.cell l5).trans c1; have c2 := (hx3.cell l5).trans c2; have c3 := (hx3.cell l5).trans c3; have c4 := (hx3.cell l5).trans c4; have c5 := (hx3.cell l5).trans c5; have h0 := (hx3.cell lMW).trans h0; have l5 := Nat.lt_of_lt_of_le l5 hx3.size; have lMW := Nat.lt_of_lt_of_le lMW hx3.size; have HO1 := Lib.hid hown1; have HX3 := Lib.hid (HX2.out.trans hx3); have hw3 := HX3.out.size; have HO1A := Lib.hid (own_agree (w' := w3.alloc (.cells #[.string k, .int .i64 v.kind, .bool v.b, .int .i64 v.i, .string v.t, .slice sl.a v.l.length sl.c, .slice so.a v.ok.length so.c] 63)) (s := s1) hown1 (F := Lt w3.heap.size) (((Ext.refl w3).alloc _ _).agree fun _ h => h) fun b hb => (own_row (s := s1) hown1 hb).2); clear hown1 hx3)
        | (at_builtin; refine wpList_append_x _ rfl (.tmp 23) (.tmp 27) 22 rfl w.heap.size 63 i0 _ 7 104 Try.underlying22 hi hz0 hz1 hz2 rfl (by decide) s1 0 (flatE (([] : List LE).take 0)) rfl HO1A.out (fun b => b = w3.heap.size) ⟨some ⟨w3.heap.size, 0, none⟩, 1⟩ 1 [.string k, .int .i64 v.kind, .bool v.b, .int .i64 v.i, .string v.t, .slice sl.a v.l.length sl.c, .slice so.a v.ok.length so.c] rfl (HRD1.out w3) HONE1.out h63b hbyb (Nat.le_trans hw3 ((Ext.refl w3).alloc _ _).size) ?_; intro s2 w4 hown2 hwr2 hs2; have hx4 := ((Ext.refl w3).alloc #[.string k, .int .i64 v.kind, .bool v.b, .int .i64 v.i, .string v.t, .slice sl.a v.l.length sl.c, .slice so.a v.ok.length so.c] 63); have hn4 := hwr2.cell0 (o := 0) hx4 (fun e => by have := (own_row (s := s1) HO1.out e).1; omega) lMW; have h0 := hn4.1.trans h0; have lMW := hn4.2; have HO2 := Lib.hid hown2; have HX4 := Lib.hid ((HX3.out.trans hx4).wr hwr2 (fun i hi => (own_row (s := s1) HO1.out hi).1)); have hw4 := HX4.out.size; clear hown2 hwr2 hs2 hx4 hn4)
        | (at_builtin; refine wpList_append_x _ rfl (.tmp 33) (.tmp 39) 22 rfl w.heap.size 63 i0 _ 7 104 Try.underlying22 hi hz0 hz1 hz2 rfl (by decide) s2 (0 + 1) (flatE (([] : List LE).take 0) ++ [.string k, .int .i64 v.kind, .bool v.b, .int .i64 v.i, .string v.t, .slice sl.a v.l.length sl.c, .slice so.a v.ok.length so.c]) rfl HO2.out (Lt w.heap.size) ⟨some ad, 0⟩ 0 [] rfl (HRQ.out w4 HX4.out) (by simp) h63c hbyc hw4 ?_; intro s3 w5 hown3 hwr3 hs3; have hn5 := hwr3.cell0 (o := 0) (Ext.refl w4) (fun e => by have := (own_row (s := s2) HO2.out e).1; omega) lMW; have h0 := hn5.1.trans h0; have lMW := hn5.2; have f0 := (HX4.out.wr hwr3 (fun i hi => (own_row (s := s2) HO2.out hi).1)).frozen (o := 0) lM; rw [hfz] at f0; have HO3 := Lib.hid hown3; have HX5 := Lib.hid (HX4.out.wr hwr3 (fun i hi => (own_row (s := s2) HO2.out hi).1)); clear hown3 hwr3 hs3 hn5))
      have hfl : flatE (put7L ([] : List LE) 0 (0) x) = (flatE (([] : List LE).take 0) ++ [.string k, .int .i64 v.kind, .bool v.b, .int .i64 v.i, .string v.t, .slice sl.a v.l.length sl.c, .slice so.a v.ok.length so.c]) ++ flatE (([] : List LE).drop (0)) := by rw [put7L, flatE_app, flatE_app, show flatE [x] = LE.cells x from by simp [flatE], HCS.out]
      have hpu : (put7L ([] : List LE) 0 (0) x).length = 0 + 1 + (([] : List LE).length - (0)) := HPUT.out
      have hzz : ([] : List LE).length - (0) = 0 := by omega
      have hdd : ([] : List LE).drop (0) = [] := List.drop_eq_nil_iff.2 (by omega)
      rw [hzz] at hpu
      rw [hdd] at hfl
      have hfin := HEND.out w5 s3 HX5.out (by rw [hpu, hfl]; exact HO3.out) (by rw [hpu]; omega) HE.out
      rw [hpu] at hfin
      go_end0
      exact ⟨⟨_, rfl⟩, hfin⟩
  | some _ sc _ _ hsc hscm hsF =>
    subst hn
    cases f with
    | true =>
      obtain rfl : p + 1 = q := by have := HQ.out; simpa using this
      by_cases hcap : sc = p + 1
      · have hcap2 := hcap.symm
        subst hcap2
        go_enter Try.func24, Try.ntmps24
        go_wp2_with fail
        refine HAT.out.mono ?_
        rintro e w2 ⟨rfl, nq, rfl⟩
        have hx2 := HX1.out.drewN nq
        replace h0 := (hx2.cell lM).trans h0
        have hb5' := hb5.ext ((Ext.refl _).drewN nq)
        obtain ⟨c0, c1, c2, c3, c4, c5⟩ := hb5'.c6
        have l5 := hb5'.lt
        have lMW : M < (World.drewN (w.alloc (.cells #[.int .i64 v.kind, .bool v.b, .int .i64 v.i, .string v.t, .slice sl.a v.l.length sl.c, .slice so.a v.ok.length so.c] 51)) nq).heap.size := Nat.lt_of_lt_of_le lM hx2.size
        generalize World.drewN _ nq = W2 at *
        have hw2 := hx2.size
        have hrp : Rd W2 (Lt w.heap.size) 7 ⟨some ⟨gs, os, none⟩, p + 1⟩ p (flatE (xs.take p)) := by have := ((HRD.out W2 hx2).take hpl).rd; rwa [List.length_take, Nat.min_eq_left hpl] at this
        have HRP := Lib.hid hrp
        have HX2 := Lib.hid hx2
        have h63a : p ≤ maxLen := by unfold maxLen; omega
        have hbya : p * 104 ≤ 140737488355328 := by omega
        have h63b : p + 1 ≤ maxLen := by unfold maxLen; omega
        have hbyb : (p + 1) * 104 ≤ 140737488355328 := by omega
        have hrq : ∀ W, Ext w W → Rd W (Lt w.heap.size) 7 ⟨some ⟨gs, os, none⟩, 0⟩ 0 [] := fun W hW => ⟨gs, os, .some _ _ _ _ (Nat.zero_le _) (Nat.zero_le _) hsF.1, rfl, fun j u hj => by simp at hj⟩
        have HRQ := Lib.hid hrq
        have h63c : p + 1 + 0 ≤ maxLen := by unfold maxLen; omega
        have hbyc : (p + 1 + 0) * 104 ≤ 140737488355328 := by omega
        have hqi : ((p + 1 : Nat) : Int) ≤ (xs.length : Int) := by omega
        have hpi : (p : Int) ≤ (xs.length : Int) := by omega
        clear hrp hx2 HAT hb5 hb5' HX1 hrq
        go_wp2_with (first
          | (at_builtin; refine wpList_append_0 rfl (.tmp 15) (.tmp 21) 22 rfl w.heap.size 63 i0 _ 7 104 Try.underlying22 hi hz0 hz1 hz2 rfl (by decide) rfl (Lt w.heap.size) ⟨some ⟨gs, os, none⟩, p + 1⟩ p (flatE (xs.take p)) rfl HRP.out (flatE_one _) h63a hbya hw2 ?_; intro s1 w3 hown1 hx3; have c0 := (hx3.cell l5).trans c0; have c1 := (hx3.cell l5).trans c1; have c2 := (hx3.cell l5).trans c2; have c3 := (hx3.cell l5).trans c3; have c4 := (hx3.cell l5).trans c4; have c5 := (hx3.cell l5).trans c5; have h0 := (hx3.cell lMW).trans h0; have l5 := Nat.lt_of_lt_of_le l5 hx3.size; have lMW := Nat.lt_of_lt_of_le lMW hx3.size; have HO1 := Lib.hid hown1; have HX3 := Lib.hid (HX2.out.trans hx3); have hw3 := HX3.out.size; have HO1A := Lib.hid (own_agree (w' := w3.alloc (.cells #[.string k, .int .i64 v.kind, .bool v.b, .int .i64 v.i, .string v.t, .slice sl.a v.l.length sl.c, .slice so.a v.ok.length so.c] 63)) (s := s1) hown1 (F := Lt w3.heap.size) (((Ext.refl w3).alloc _ _).agree fun _ h => h) fun b hb => (own_row (s := s1) hown1 hb).2); clear hown1 hx3)
          | (at_builtin; refine wpList_append_x _ rfl (.tmp 23) (.tmp 27) 22 rfl w.heap.size 63 i0 _ 7 104 Try.underlying22 hi hz0 hz1 hz2 rfl (by decide) s1 p (flatE (xs.take p)) rfl HO1A.out (fun b => b = w3.heap.size) ⟨some ⟨w3.heap.size, 0, none⟩, 1⟩ 1 [.string k, .int .i64 v.kind, .bool v.b, .int .i64 v.i, .string v.t, .slice sl.a v.l.length sl.c, .slice so.a v.ok.length so.c] rfl (HRD1.out w3) HONE1.out h63b hbyb (Nat.le_trans hw3 ((Ext.refl w3).alloc _ _).size) ?_; intro s2 w4 hown2 hwr2 hs2; have hx4 := ((Ext.refl w3).alloc #[.string k, .int .i64 v.kind, .bool v.b, .int .i64 v.i, .string v.t, .slice sl.a v.l.length sl.c, .slice so.a v.ok.length so.c] 63); have hn4 := hwr2.cell0 (o := 0) hx4 (fun e => by have := (own_row (s := s1) HO1.out e).1; omega) lMW; have h0 := hn4.1.trans h0; have lMW := hn4.2; have HO2 := Lib.hid hown2; have HX4 := Lib.hid ((HX3.out.trans hx4).wr hwr2 (fun i hi => (own_row (s := s1) HO1.out hi).1)); have hw4 := HX4.out.size; clear hown2 hwr2 hs2 hx4 hn4)
          | (at_builtin; refine wpList_append_x _ rfl (.tmp 33) (.tmp 39) 22 rfl w.heap.size 63 i0 _ 7 104 Try.underlying22 hi hz0 hz1 hz2 rfl (by decide) s2 (p + 1) (flatE (xs.take p) ++ [.string k, .int .i64 v.kind, .bool v.b, .int .i64 v.i, .string v.t, .slice sl.a v.l.length sl.c, .slice so.a v.ok.length so.c]) rfl HO2.out (Lt w.heap.size) ⟨some ⟨gs, os, none⟩, 0⟩ 0 [] rfl (HRQ.out w4 HX4.out) (by simp) h63c hbyc hw4 ?_; intro s3 w5 hown3 hwr3 hs3; have hn5 := hwr3.cell0 (o := 0) (Ext.refl w4) (fun e => by have := (own_row (s := s2) HO2.out e).1; omega) lMW; have h0 := hn5.1.trans h0; have lMW := hn5.2; have f0 := (HX4.out.wr hwr3 (fun i hi => (own_row (s := s2) HO2.out hi).1)).frozen (o := 0) lM; rw [hfz] at f0; have HO3 := Lib.hid hown3; have HX5 := Lib.hid (HX4.out.wr hwr3 (fun i hi => (own_row (s := s2) HO2.out hi).1)); clear hown3 hwr3 hs3 hn5))
        have hfl : flatE (put7L xs p (p + 1) x) = (flatE (xs.take p) ++ [.string k, .int .i64 v.kind, .bool v.b, .int .i64 v.i, .string v.t, .slice sl.a v.l.length sl.c, .slice so.a v.ok.length so.c]) ++ flatE (xs.drop (p + 1)) := by rw [put7L, flatE_app, flatE_app, show flatE [x] = LE.cells x from by simp [flatE], HCS.out]
        have hpu : (put7L xs p (p + 1) x).length = p + 1 + (xs.length - (p + 1)) := HPUT.out
        have hzz : xs.length - (p + 1) = 0 := by omega
        have hdd : xs.drop (p + 1) = [] := List.drop_eq_nil_iff.2 (by omega)
        rw [hzz] at hpu
        rw [hdd] at hfl
        have hfin := HEND.out w5 s3 HX5.out (by rw [hpu, hfl]; exact HO3.out) (by rw [hpu]; omega) HE.out
        rw [hpu] at hfin
        go_end0
        exact ⟨⟨_, rfl⟩, hfin⟩
      · have hcap' : ¬ p + 1 = sc := fun e => hcap e.symm
        go_enter Try.func24, Try.ntmps24
        go_wp2_with fail
        refine HAT.out.mono ?_
        rintro e w2 ⟨rfl, nq, rfl⟩
        have hx2 := HX1.out.drewN nq
        replace h0 := (hx2.cell lM).trans h0
        have hb5' := hb5.ext ((Ext.refl _).drewN nq)
        obtain ⟨c0, c1, c2, c3, c4, c5⟩ := hb5'.c6
        have l5 := hb5'.lt
        have lMW : M < (World.drewN (w.alloc (.cells #[.int .i64 v.kind, .bool v.b, .int .i64 v.i, .string v.t, .slice sl.a v.l.length sl.c, .slice so.a v.ok.length so.c] 51)) nq).heap.size := Nat.lt_of_lt_of_le lM hx2.size
        generalize World.drewN _ nq = W2 at *
        have hw2 := hx2.size
        have hrp : Rd W2 (Lt w.heap.size) 7 ⟨some ⟨gs, os, none⟩, sc⟩ p (flatE (xs.take p)) := by have := ((HRD.out W2 hx2).take hpl).rd; rwa [List.length_take, Nat.min_eq_left hpl] at this
        have HRP := Lib.hid hrp
        have HX2 := Lib.hid hx2
        have h63a : p ≤ maxLen := by unfold maxLen; omega
        have hbya : p * 104 ≤ 140737488355328 := by omega
        have h63b : p + 1 ≤ maxLen := by unfold maxLen; omega
        have hbyb : (p + 1) * 104 ≤ 140737488355328 := by omega
        have hrq : ∀ W, Ext w W → Rd W (Lt w.heap.size) 7 ⟨some ⟨gs, os + (p + 1) * 7, none⟩, sc - (p + 1)⟩ (xs.length - (p + 1)) (flatE (xs.drop (p + 1))) := fun W hW => by have := ((HRD.out W hW).drop hql).rd; rwa [List.length_drop] at this
        have HRQ := Lib.hid hrq
        have h63c : p + 1 + (xs.length - (p + 1)) ≤ maxLen := by unfold maxLen; omega
        have hbyc : (p + 1 + (xs.length - (p + 1))) * 104 ≤ 140737488355328 := by omega
        have hqi : ((p + 1 : Nat) : Int) ≤ (xs.length : Int) := by omega
        have hpi : (p : Int) ≤ (xs.length : Int) := by omega
        clear hrp hx2 HAT hb5 hb5' HX1 hrq
        go_wp2_with (first
          | (at_builtin; refine wpList_append_0 rfl (.tmp 15) (.tmp 21) 22 rfl w.heap.size 63 i0 _ 7 104 Try.underlying22 hi hz0 hz1 hz2 rfl (by decide) rfl (Lt w.heap.size) ⟨some ⟨gs, os, none⟩, sc⟩ p (flatE (xs.take p)) rfl HRP.out (flatE_one _) h63a hbya hw2 ?_; intro s1 w3 hown1 hx3; have c0 := (hx3.cell l5).trans c0; have c1 := (hx3.cell l5).trans c1; have c2 := (hx3.cell l5).trans c2; have c3 := (hx3.cell l5).trans c3; have c4 := (hx3.cell l5).trans c4; have c5 := (hx3.cell l5).trans c5; have h0 := (hx3.cell lMW).trans h0; have l5 := Nat.lt_of_lt_of_le l5 hx3.size; have lMW := Nat.lt_of_lt_of_le lMW hx3.size; have HO1 := Lib.hid hown1; have HX3 := Lib.hid (HX2.out.trans hx3); have hw3 := HX3.out.size; have HO1A := Lib.hid (own_agree (w' := w3.alloc (.cells #[.string k, .int .i64 v.kind, .bool v.b, .int .i64 v.i, .string v.t, .slice sl.a v.l.length sl.c, .slice so.a v.ok.length so.c] 63)) (s := s1) hown1 (F := Lt w3.heap.size) (((Ext.refl w3).alloc _ _).agree fun _ h => h) fun b hb => (own_row (s := s1) hown1 hb).2); clear hown1 hx3)
          | (at_builtin; refine wpList_append_x _ rfl (.tmp 23) (.tmp 27) 22 rfl w.heap.size 63 i0 _ 7 104 Try.underlying22 hi hz0 hz1 hz2 rfl (by decide) s1 p (flatE (xs.take p)) rfl HO1A.out (fun b => b = w3.heap.size) ⟨some ⟨w3.heap.size, 0, none⟩, 1⟩ 1 [.string k, .int .i64 v.kind, .bool v.b, .int .i64 v.i, .string v.t, .slice sl.a v.l.length sl.c, .slice so.a v.ok.length so.c] rfl (HRD1.out w3) HONE1.out h63b hbyb (Nat.le_trans hw3 ((Ext.refl w3).alloc _ _).size) ?_; intro s2 w4 hown2 hwr2 hs2; have hx4 := ((Ext.refl w3).alloc #[.string k, .int .i64 v.kind, .bool v.b, .int .i64 v.i, .string v.t, .slice sl.a v.l.length sl.c, .slice so.a v.ok.length so.c] 63); have hn4 := hwr2.cell0 (o := 0) hx4 (fun e => by have := (own_row (s := s1) HO1.out e).1; omega) lMW; have h0 := hn4.1.trans h0; have lMW := hn4.2; have HO2 := Lib.hid hown2; have HX4 := Lib.hid ((HX3.out.trans hx4).wr hwr2 (fun i hi => (own_row (s := s1) HO1.out hi).1)); have hw4 := HX4.out.size; clear hown2 hwr2 hs2 hx4 hn4)
          | (at_builtin; refine wpList_append_x _ rfl (.tmp 33) (.tmp 39) 22 rfl w.heap.size 63 i0 _ 7 104 Try.underlying22 hi hz0 hz1 hz2 rfl (by decide) s2 (p + 1) (flatE (xs.take p) ++ [.string k, .int .i64 v.kind, .bool v.b, .int .i64 v.i, .string v.t, .slice sl.a v.l.length sl.c, .slice so.a v.ok.length so.c]) rfl HO2.out (Lt w.heap.size) ⟨some ⟨gs, os + (p + 1) * 7, none⟩, sc - (p + 1)⟩ (xs.length - (p + 1)) (flatE (xs.drop (p + 1))) rfl (HRQ.out w4 HX4.out) (flatE_one _) h63c hbyc hw4 ?_; intro s3 w5 hown3 hwr3 hs3; have hn5 := hwr3.cell0 (o := 0) (Ext.refl w4) (fun e => by have := (own_row (s := s2) HO2.out e).1; omega) lMW; have h0 := hn5.1.trans h0; have lMW := hn5.2; have f0 := (HX4.out.wr hwr3 (fun i hi => (own_row (s := s2) HO2.out hi).1)).frozen (o := 0) lM; rw [hfz] at f0; have HO3 := Lib.hid hown3; have HX5 := Lib.hid (HX4.out.wr hwr3 (fun i hi => (own_row (s := s2) HO2.out hi).1)); clear hown3 hwr3 hs3 hn5))
        have hfl : flatE (put7L xs p (p + 1) x) = (flatE (xs.take p) ++ [.string k, .int .i64 v.kind, .bool v.b, .int .i64 v.i, .string v.t, .slice sl.a v.l.length sl.c, .slice so.a v.ok.length so.c]) ++ flatE (xs.drop (p + 1)) := by rw [put7L, flatE_app, flatE_app, show flatE [x] = LE.cells x from by simp [flatE], HCS.out]
        have hpu : (put7L xs p (p + 1) x).length = p + 1 + (xs.length - (p + 1)) := HPUT.out
        have hfin := HEND.out w5 s3 HX5.out (by rw [hpu, hfl]; exact HO3.out) (by rw [hpu]; omega) HE.out
        rw [hpu, show p + 1 + (xs.length - (p + 1)) = xs.length from by omega] at hfin
        go_end0
        exact ⟨⟨_, rfl⟩, hfin⟩
    | false =>
      obtain rfl : p = q := by have := HQ.out; simpa using this
      by_cases hcap : sc = p
      · have hcap2 := hcap.symm
        subst hcap2
        go_enter Try.func24, Try.ntmps24
        go_wp2_with fail
        refine HAT.out.mono ?_
        rintro e w2 ⟨rfl, nq, rfl⟩
        have hx2 := HX1.out.drewN nq
        replace h0 := (hx2.cell lM).trans h0
        have hb5' := hb5.ext ((Ext.refl _).drewN nq)
        obtain ⟨c0, c1, c2, c3, c4, c5⟩ := hb5'.c6
        have l5 := hb5'.lt
        have lMW : M < (World.drewN (w.alloc (.cells #[.int .i64 v.kind, .bool v.b, .int .i64 v.i, .string v.t, .slice sl.a v.l.length sl.c, .slice so.a v.ok.length so.c] 51)) nq).heap.size := Nat.lt_of_lt_of_le lM hx2.size
        generalize World.drewN _ nq = W2 at *
        have hw2 := hx2.size
        have hrp : Rd W2 (Lt w.heap.size) 7 ⟨some ⟨gs, os, none⟩, p⟩ p (flatE (xs.take p)) := by have := ((HRD.out W2 hx2).take hpl).rd; rwa [List.length_take, Nat.min_eq_left hpl] at this
        have HRP := Lib.hid hrp
        have HX2 := Lib.hid hx2
        have h63a : p ≤ maxLen := by unfold maxLen; omega
        have hbya : p * 104 ≤ 140737488355328 := by omega
        have h63b : p + 1 ≤ maxLen := by unfold maxLen; omega
        have hbyb : (p + 1) * 104 ≤ 140737488355328 := by omega
        have hrq : ∀ W, Ext w W → Rd W (Lt w.heap.size) 7 ⟨some ⟨gs, os, none⟩, 0⟩ 0 [] := fun W hW => ⟨gs, os, .some _ _ _ _ (Nat.zero_le _) (Nat.zero_le _) hsF.1, rfl, fun j u hj => by simp at hj⟩
        have HRQ := Lib.hid hrq
        have h63c : p + 1 + 0 ≤ maxLen := by unfold maxLen; omega
        have hbyc : (p + 1 + 0) * 104 ≤ 140737488355328 := by omega
        have hqi : ((p : Nat) : Int) ≤ (xs.length : Int) := by omega
        have hpi : (p : Int) ≤ (xs.length : Int) := by omega
        clear hrp hx2 HAT hb5 hb5' HX1 hrq
        go_wp2_with (first
          | (at_builtin; refine wpList_append_0 rfl (.tmp 15) (.tmp 21) 22 rfl w.heap.size 63 i0 _ 7 104 Try.underlying22 hi hz0 hz1 hz2 rfl (by decide) rfl (Lt w.heap.size) ⟨some ⟨gs, os, none⟩, p⟩ p (flatE (xs.take p)) rfl HRP.out (flatE_one _) h63a hbya hw2 ?_; intro s1 w3 hown1 hx3; have c0 := (hx3.cell l5).trans c0; have c1 := (hx3.cell l5).trans c1; have c2 := (hx3.cell l5).trans c2; have c3 := (hx3.cell l5).trans c3; have c4 := (hx3.cell l5).trans c4; have c5 := (hx3.cell l5).trans c5; have h0 := (hx3.cell lMW).trans h0; have l5 := Nat.lt_of_lt_of_le l5 hx3.size; have lMW := Nat.lt_of_lt_of_le lMW hx3.size; have HO1 := Lib.hid hown1; have HX3 := Lib.hid (HX2.out.trans hx3); have hw3 := HX3.out.size; have HO1A := Lib.hid (own_agree (w' := w3.alloc (.cells #[.string k, .int .i64 v.kind, .bool v.b, .int .i64 v.i, .string v.t, .slice sl.a v.l.length sl.c, .slice so.a v.ok.length so.c] 63)) (s := s1) hown1 (F := Lt w3.heap.size) (((Ext.refl w3).alloc _ _).agree fun _ h => h) fun b hb => (own_row (s := s1) hown1 hb).2); clear hown1 hx3)
          | (at_builtin; refine wpList_append_x _ rfl (.tmp 23) (.tmp 27) 22 rfl w.heap.size 63 i0 _ 7 104 Try.underlying22 hi hz0 hz1 hz2 rfl (by decide) s1 p (flatE (xs.take p)) rfl HO1A.out (fun b => b = w3.heap.size) ⟨some ⟨w3.heap.size, 0, none⟩, 1⟩ 1 [.string k, .int .i64 v.kind, .bool v.b, .int .i64 v.i, .string v.t, .slice sl.a v.l.length sl.c, .slice so.a v.ok.length so.c] rfl (HRD1.out w3) HONE1.out h63b hbyb (Nat.le_trans hw3 ((Ext.refl w3).alloc _ _).size) ?_; intro s2 w4 hown2 hwr2 hs2; have hx4 := ((Ext.refl w3).alloc #[.string k, .int .i64 v.kind, .bool v.b, .int .i64 v.i, .string v.t, .slice sl.a v.l.length sl.c, .slice so.a v.ok.length so.c] 63); have hn4 := hwr2.cell0 (o := 0) hx4 (fun e => by have := (own_row (s := s1) HO1.out e).1; omega) lMW; have h0 := hn4.1.trans h0; have lMW := hn4.2; have HO2 := Lib.hid hown2; have HX4 := Lib.hid ((HX3.out.trans hx4).wr hwr2 (fun i hi => (own_row (s := s1) HO1.out hi).1)); have hw4 := HX4.out.size; clear hown2 hwr2 hs2 hx4 hn4)
          | (at_builtin; refine wpList_append_x _ rfl (.tmp 33) (.tmp 39) 22 rfl w.heap.size 63 i0 _ 7 104 Try.underlying22 hi hz0 hz1 hz2 rfl (by decide) s2 (p + 1) (flatE (xs.take p) ++ [.string k, .int .i64 v.kind, .bool v.b, .int .i64 v.i, .string v.t, .slice sl.a v.l.length sl.c, .slice so.a v.ok.length so.c]) rfl HO2.out (Lt w.heap.size) ⟨some ⟨gs, os, none⟩, 0⟩ 0 [] rfl (HRQ.out w4 HX4.out) (by simp) h63c hbyc hw4 ?_; intro s3 w5 hown3 hwr3 hs3; have hn5 := hwr3.cell0 (o := 0) (Ext.refl w4) (fun e => by have := (own_row (s := s2) HO2.out e).1; omega) lMW; have h0 := hn5.1.trans h0; have lMW := hn5.2; have f0 := (HX4.out.wr hwr3 (fun i hi => (own_row (s := s2) HO2.out hi).1)).frozen (o := 0) lM; rw [hfz] at f0; have HO3 := Lib.hid hown3; have HX5 := Lib.hid (HX4.out.wr hwr3 (fun i hi => (own_row (s := s2) HO2.out hi).1)); clear hown3 hwr3 hs3 hn5))
        have hfl : flatE (put7L xs p (p) x) = (flatE (xs.take p) ++ [.string k, .int .i64 v.kind, .bool v.b, .int .i64 v.i, .string v.t, .slice sl.a v.l.length sl.c, .slice so.a v.ok.length so.c]) ++ flatE (xs.drop (p)) := by rw [put7L, flatE_app, flatE_app, show flatE [x] = LE.cells x from by simp [flatE], HCS.out]
        have hpu : (put7L xs p (p) x).length = p + 1 + (xs.length - (p)) := HPUT.out
        have hzz : xs.length - (p) = 0 := by omega
        have hdd : xs.drop (p) = [] := List.drop_eq_nil_iff.2 (by omega)
        rw [hzz] at hpu
        rw [hdd] at hfl
        have hfin := HEND.out w5 s3 HX5.out (by rw [hpu, hfl]; exact HO3.out) (by rw [hpu]; omega) HE.out
        rw [hpu] at hfin
        go_end0
        exact ⟨⟨_, rfl⟩, hfin⟩
      · have hcap' : ¬ p = sc := fun e => hcap e.symm
        go_enter Try.func24, Try.ntmps24
        go_wp2_with fail
        refine HAT.out.mono ?_
        rintro e w2 ⟨rfl, nq, rfl⟩
        have hx2 := HX1.out.drewN nq
        replace h0 := (hx2.cell lM).trans h0
        have hb5' := hb5.ext ((Ext.refl _).drewN nq)
        obtain ⟨c0, c1, c2, c3, c4, c5⟩ := hb5'.c6
        have l5 := hb5'.lt
        have lMW : M < (World.drewN (w.alloc (.cells #[.int .i64 v.kind, .bool v.b, .int .i64 v.i, .string v.t, .slice sl.a v.l.length sl.c, .slice so.a v.ok.length so.c] 51)) nq).heap.size := Nat.lt_of_lt_of_le lM hx2.size
        generalize World.drewN _ nq = W2 at *
        have hw2 := hx2.size
        have hrp : Rd W2 (Lt w.heap.size) 7 ⟨some ⟨gs, os, none⟩, sc⟩ p (flatE (xs.take p)) := by have := ((HRD.out W2 hx2).take hpl).rd; rwa [List.length_take, Nat.min_eq_left hpl] at this
        have HRP := Lib.hid hrp
        have HX2 := Lib.hid hx2
        have h63a : p ≤ maxLen := by unfold maxLen; omega
        have hbya : p * 104 ≤ 140737488355328 := by omega
        have h63b : p + 1 ≤ maxLen := by unfold maxLen; omega
        have hbyb : (p + 1) * 104 ≤ 140737488355328 := by omega
        have hrq : ∀ W, Ext w W → Rd W (Lt w.heap.size) 7 ⟨some ⟨gs, os + (p) * 7, none⟩, sc - (p)⟩ (xs.length - (p)) (flatE (xs.drop (p))) := fun W hW => by have := ((HRD.out W hW).drop hql).rd; rwa [List.length_drop] at this
        have HRQ := Lib.hid hrq
        have h63c : p + 1 + (xs.length - (p)) ≤ maxLen := by unfold maxLen; omega
        have hbyc : (p + 1 + (xs.length - (p))) * 104 ≤ 140737488355328 := by omega
        have hqi : ((p : Nat) : Int) ≤ (xs.length : Int) := by omega
        have hpi : (p : Int) ≤ (xs.length : Int) := by omega
        clear hrp hx2 HAT hb5 hb5' HX1 hrq
        go_wp2_with (first
          | (at_builtin; refine wpList_append_0 rfl (.tmp 15) (.tmp 21) 22 rfl w.heap.size 63 i0 _ 7 104 Try.underlying22 hi hz0 hz1 hz2 rfl (by decide) rfl (Lt w.heap.size) ⟨some ⟨gs, os, none⟩, sc⟩ p (flatE (xs.take p)) rfl HRP.out (flatE_one _) h63a hbya hw2 ?_; intro s1 w3 hown1 hx3; have c0 := (hx3.cell l5).trans c0; have c1 := (hx3.cell l5).trans c1; have c2 := (hx3.cell l5).trans c2; have c3 := (hx3.cell l5).trans c3; have c4 := (hx3.cell l5).trans c4; have c5 := (hx3.cell l5).trans c5; have h0 := (hx3.cell lMW).trans h0; have l5 := Nat.lt_of_lt_of_le l5 hx3.size; have lMW := Nat.lt_of_lt_of_le lMW hx3.size; have HO1 := Lib.hid hown1; have HX3 := Lib.hid (HX2.out.trans hx3); have hw3 := HX3.out.size; have HO1A := Lib.hid (own_agree (w' := w3.alloc (.cells #[.string k, .int .i64 v.kind, .bool v.b, .int .i64 v.i, .string v.t, .slice sl.a v.l.length sl.c, .slice so.a v.ok.length so.c] 63)) (s := s1) hown1 (F := Lt w3.heap.size) (((Ext.refl w3).alloc _ _).agree fun _ h => h) fun b hb => (own_row (s := s1) hown1 hb).2); clear hown1 hx3)
          | (at_builtin; refine wpList_append_x _ rfl (.tmp 23) (.tmp 27) 22 rfl w.heap.size 63 i0 _ 7 104 Try.underlying22 hi hz0 hz1 hz2 rfl (by decide) s1 p (flatE (xs.take p)) rfl HO1A.out (fun b => b = w3.heap.size) ⟨some ⟨w3.heap.size, 0, none⟩, 1⟩ 1 [.string k, .int .i64 v.kind, .bool v.b, .int .i64 v.i, .string v.t, .slice sl.a v.l.length sl.c, .slice so.a v.ok.length so.c] rfl (HRD1.out w3) HONE1.out h63b hbyb (Nat.le_trans hw3 ((Ext.refl w3).alloc _ _).size) ?_; intro s2 w4 hown2 hwr2 hs2; have hx4 := ((Ext.refl w3).alloc #[.string k, .int .i64 v.kind, .bool v.b, .int .i64 v.i, .string v.t, .slice sl.a v.l.length sl.c, .slice so.a v.ok.length so.c] 63); have hn4 := hwr2.cell0 (o := 0) hx4 (fun e => by have := (own_row (s := s1) HO1.out e).1; omega) lMW; have h0 := hn4.1.trans h0; have lMW := hn4.2; have HO2 := Lib.hid hown2; have HX4 := Lib.hid ((HX3.out.trans hx4).wr hwr2 (fun i hi => (own_row (s := s1) HO1.out hi).1)); have hw4 := HX4.out.size; clear hown2 hwr2 hs2 hx4 hn4)
          | (at_builtin; refine wpList_append_x _ rfl (.tmp 33) (.tmp 39) 22 rfl w.heap.size 63 i0 _ 7 104 Try.underlying22 hi hz0 hz1 hz2 rfl (by decide) s2 (p + 1) (flatE (xs.take p) ++ [.string k, .int .i64 v.kind, .bool v.b, .int .i64 v.i, .string v.t, .slice sl.a v.l.length sl.c, .slice so.a v.ok.length so.c]) rfl HO2.out (Lt w.heap.size) ⟨some ⟨gs, os + (p) * 7, none⟩, sc - (p)⟩ (xs.length - (p)) (flatE (xs.drop (p))) rfl (HRQ.out w4 HX4.out) (flatE_one _) h63c hbyc hw4 ?_; intro s3 w5 hown3 hwr3 hs3; have hn5 := hwr3.cell0 (o := 0) (Ext.refl w4) (fun e => by have := (own_row (s := s2) HO2.out e).1; omega) lMW; have h0 := hn5.1.trans h0; have lMW := hn5.2; have f0 := (HX4.out.wr hwr3 (fun i hi => (own_row (s := s2) HO2.out hi).1)).frozen (o := 0) lM; rw [hfz] at f0; have HO3 := Lib.hid hown3; have HX5 := Lib.hid (HX4.out.wr hwr3 (fun i hi => (own_row (s := s2) HO2.out hi).1)); clear hown3 hwr3 hs3 hn5))
        have hfl : flatE (put7L xs p (p) x) = (flatE (xs.take p) ++ [.string k, .int .i64 v.kind, .bool v.b, .int .i64 v.i, .string v.t, .slice sl.a v.l.length sl.c, .slice so.a v.ok.length so.c]) ++ flatE (xs.drop (p)) := by rw [put7L, flatE_app, flatE_app, show flatE [x] = LE.cells x from by simp [flatE], HCS.out]
        have hpu : (put7L xs p (p) x).length = p + 1 + (xs.length - (p)) := HPUT.out
        have hfin := HEND.out w5 s3 HX5.out (by rw [hpu, hfl]; exact HO3.out) (by rw [hpu]; omega) HE.out
        rw [hpu] at hfin
        go_end0
        exact ⟨⟨_, rfl⟩, hfin⟩
end Go.Proofs.Ytohajcflklejjaa
namespace Go.Proofs.Ytohajcflklejjaa
open Go.RowKit
set_option linter.unusedVariables false
set_option linter.unusedSimpArgs false
end Go.Proofs.Ytohajcflklejjaa
namespace Go.Proofs.Ytohajcflklejjaa
open Go.RowKit
set_option linter.unusedVariables false
set_option linter.unusedSimpArgs false
theorem row7_end {H : Nat → Prop} {w w3 : World} {M : Nat} {s s3 : Sl} {xs L : List LE} {es : List Ent} (hm : H M) (hH : ∀ b, H b → b < w.heap.size) (hb : Blk w M 42 #[.slice s.a xs.length s.c]) (hs : ES w (NH H w) s xs) (hL : ∀ y ∈ L, y ∈ xs)
    (hx : Ext w w3) (hown : w3.ownsRow w.heap.size 63 7 (.slice s3.a L.length s3.c) L.length (flatE L)) (hf : L.length * 104 ≤ 140737488355328) (he : L.map LE.ent = es) :
    MapAt H (w3.setCell ⟨M, 0, none⟩ (.slice s3.a L.length s3.c)) M es ∧ St (fun b => b = M) w (w3.setCell ⟨M, 0, none⟩ (.slice s3.a L.length s3.c)) := by
  have hMw := hb.lt
  have hst : St (fun b => b = M) w (w3.setCell ⟨M, 0, none⟩ (.slice s3.a L.length s3.c)) := (hx.st (fun b => b = M)).set (p := ⟨M, 0, none⟩) (.inr rfl) _
  have hag : Agree (NH H w) w (w3.setCell ⟨M, 0, none⟩ (.slice s3.a L.length s3.c)) := hst.agree.mono fun i hi => ⟨hi.1, fun e => hi.2 (e ▸ hm)⟩
  have hag3 : Agree (In w.heap.size w3.heap.size) w3 (w3.setCell ⟨M, 0, none⟩ (.slice s3.a L.length s3.c)) := Agree.setCell w3 ⟨M, 0, none⟩ _ (fun h => by have h1 : w.heap.size ≤ M := h.1; omega)
  refine ⟨⟨hm, s3, L, ?_, ⟨?_, ?_, hf⟩, he⟩, hst⟩
  · exact (hb.ext hx).set_ 0 _
  · exact ((Rd.of_own hown).agree hag3).mono fun i hi => ⟨by rw [World.size_setCell]; exact hi.2, fun h => by have := hH i h; have := hi.1; omega⟩
  · intro y hy
    exact ⟨((hs.vals y (hL y hy)).1.agree hag).mono fun i hi => ⟨Nat.lt_of_lt_of_le hi.1 hst.size, hi.2⟩, (hs.vals y (hL y hy)).2⟩
section
variable {P : Program} (w : World)
theorem step_append_0 {ops : Array Oper} {o : Oper} {a : Act} {K : Act → World → Prop} {Q : Exit → Act → World → Prop} {E : Prop} (hgd : o.guard = none) (s' x : Operand) (t : TypeId)
    (ho : o.op = .call { callee := .builtin .append, args := #[s', x], argTypes := #[t, t] })
    (base : Nat) (e : TypeId) (i : TypeInfo) (z : Value) (size bytes : Nat) (ht : P.underlying t = some (.slice e)) (hi : P.info? e = some i) (hz : i.zero = some z)
    (hsize : i.size = size) (hby : i.bytes = bytes) (hzs : z.cells.size = size) (hsz : 0 < size) (hs : a.eval s' = .slice none 0 0)
    (F : Nat → Prop) (sx : Sl) (m : Nat) (news : List Value) (hx : a.eval x = .slice sx.a m sx.c) (hsrc : Rd w F size sx m news) (h1 : ∀ u ∈ news, u.oneCell' = true)
    (h63 : m ≤ maxLen) (hbytes : m * bytes ≤ 140737488355328) (hbase : base ≤ w.heap.size)
    (h : ∀ (s' : Sl) (w' : World), w'.ownsRow base e size (.slice s'.a m s'.c) m news → Ext w w' → K (a.put o.dst (.slice s'.a m s'.c)) w') :
    if Region.wanted o (yielded ops a.tmps) = true then Oper.wp P o a w K Q else E :=
  step_append_x w hgd s' x t ho base e i z size bytes ht hi hz hsize hby hzs hsz Sl.none 0 [] hs (World.ownsRow_nil _ _ _ _) F sx m news hx hsrc h1 (by omega) (by rw [Nat.zero_add]; exact hbytes) hbase fun s2 w2 h2 h3 _ => by
    rw [Nat.zero_add, List.nil_append] at h2
    rw [Nat.zero_add]
    exact h s2 w2 h2 ((Ext.refl w).wr h3 (fun i hi => by cases hi))
end
def Del7Post (H : Nat → Prop) (M : Nat) (es : List Ent) (k : ByteArray) (w : World) (e : Ending) (w' : World) : Prop :=
  e = .returned (.bool (getE es k).isSome) ∧ MapAt H w' M (delE es k) ∧ St (fun b => b = M) w w'
set_option maxRecDepth 100000 in
set_option maxHeartbeats 2000000 in
theorem del7_any {H : Nat → Prop} {w : World} {M : Nat} {es : List Ent} (h : MapAt H w M es) (hH : ∀ b, H b → b < w.heap.size) (hso : Sorted es) (hc : es.length ≤ 1000000) (k : ByteArray) :
    Calls Try.prog 27 #[.pointer (some ⟨M, 0, none⟩), .string k] w (Del7Post H M es k w) := by
  obtain ⟨i0, hi, hz0, hz1, hz2⟩ := info_parts Try.infoEntry
  have hat := at07 h k
  rw [at_get hso] at hat
  have hde := delE_pos hso k
  have hge := at_get hso k
  have hm' := h
  obtain ⟨hm, s, xs, hb, hs, hxs⟩ := h
  obtain ⟨p, hp⟩ : ∃ p, posE es k = p := ⟨_, rfl⟩
  rw [hp] at hat hde hge
  cases hg : getE es k with
  | none =>
    rw [hg] at hat
    have HAT := Lib.hid hat
    have HM := Lib.hid hm'
    have HD := Lib.hid (delE_none hg)
    have HG := Lib.hid hg
    clear hat hde hge hm' hb hs hxs hg hp
    go_enter Try.func27, Try.ntmps27
    go_wp2_with fail
    refine HAT.out.mono ?_
    rintro e w2 ⟨rfl, nq, rfl⟩
    have hx2 := (Ext.refl w).drewN nq
    go_wp2_with fail
    go_ret
    exact ⟨by rw [HG.out]; rfl, by rw [HD.out]; exact HM.out.ext hx2, hx2.st _⟩
  | some v =>
    rw [hg] at hat hge
    have hee := of_decide_eq_true hge
    have hpl : p < xs.length := by
      rw [← hxs, List.getElem?_map] at hee
      rcases Nat.lt_or_ge p xs.length with h | h
      · exact h
      · rw [List.getElem?_eq_none h] at hee; cases hee
    rw [if_pos hee] at hde
    have hlen : xs.length = es.length := by rw [← hxs, List.length_map]
    have hxl : xs.length ≤ 1000000 := by omega
    have he : (xs.take p ++ xs.drop (p + 1)).map LE.ent = delE es k := by rw [hde, ← hxs, List.map_append, List.map_take, List.map_drop]
    have hput : (xs.take p ++ xs.drop (p + 1)).length = p + (xs.length - (p + 1)) := by simp only [List.length_append, List.length_take, List.length_drop]; omega
    have hend := fun (w3 : World) (s3 : Sl) => row7_end (w3 := w3) (s3 := s3) (L := xs.take p ++ xs.drop (p + 1)) (es := delE es k) hm hH hb hs (fun y hy => by
      rcases List.mem_append.1 hy with hy | hy
      · exact List.mem_of_mem_take hy
      · exact List.mem_of_mem_drop hy)
    have hrd := fun (W : World) (hW : Ext w W) => (hs.mono (G := Lt w.heap.size) fun i hi => hi.1).agree (hW.agree fun _ h => h)
    have h0 : w.cell? ⟨M, 0, none⟩ = some (.slice s.a xs.length s.c) := hb.cell 0
    have lM := hb.lt
    have hfz := hb.frozen 0
    have hsp := hs.rd
    obtain ⟨gs, os, hsa, -, -⟩ := hsp
    have HEND := Lib.hid hend
    have HRD := Lib.hid hrd
    have HE := Lib.hid he
    have HPUT := Lib.hid hput
    have HAT := Lib.hid hat
    have HG := Lib.hid hg
    clear hend hrd he hput hat hge hee hde hm' hb hs hxs hg hp hlen
    generalize hn : xs.length = n at hsa
    cases hsa with
    | nil => omega
    | zero => omega
    | some _ sc _ _ hsc hscm hsF =>
      subst hn
      have hp1 : (p : Int) + 1 ≤ (xs.length : Int) := by omega
      have hp0 : (p : Int) ≤ (xs.length : Int) := by omega
      have hpc : (p : Int) ≤ (sc : Int) := by omega
      have hpc1 : (p : Int) + 1 ≤ (sc : Int) := by omega
      have h0p : (0 : Int) ≤ (p : Int) := by omega
      have hpq : (p : Int) ≤ (p : Int) + 1 := by omega
      have h0p1 : (0 : Int) ≤ (p : Int) + 1 := by omega
      have htn : ((p : Int) + 1).toNat = p + 1 := by omega
      have h63a : p ≤ maxLen := by unfold maxLen; omega
      have hbya : p * 104 ≤ 140737488355328 := by omega
      by_cases hcap : sc = p + 1
      · subst hcap
        have hrq : ∀ W, Ext w W → Rd W (Lt w.heap.size) 7 ⟨some ⟨gs, os, none⟩, 0⟩ 0 [] := fun W hW => ⟨gs, os, .some _ _ _ _ (Nat.zero_le _) (Nat.zero_le _) hsF.1, rfl, fun j u hj => by simp at hj⟩
        have hrp : ∀ W, Ext w W → Rd W (Lt w.heap.size) 7 ⟨some ⟨gs, os, none⟩, p + 1⟩ p (flatE (xs.take p)) := fun W hW => by have := ((HRD.out W hW).take (Nat.le_of_lt hpl)).rd; rwa [List.length_take, Nat.min_eq_left (Nat.le_of_lt hpl)] at this
        have HRQ := Lib.hid hrq
        have HRP := Lib.hid hrp
        have hon : ∀ u ∈ ([] : List Value), u.oneCell' = true := by simp
        have HON := Lib.hid hon
        have h63c : p + 0 ≤ maxLen := by unfold maxLen; omega
        have hbyc : (p + 0) * 104 ≤ 140737488355328 := by omega
        clear hrq hrp hon
        go_enter Try.func27, Try.ntmps27
        go_wp2_with fail
        refine HAT.out.mono ?_
        rintro e w2 ⟨rfl, nq, rfl⟩
        have hx2 := (Ext.refl w).drewN nq
        replace h0 := (hx2.cell lM).trans h0
        replace hfz := (hx2.frozen (o := 0) lM).trans hfz
        have lM2 := Nat.lt_of_lt_of_le lM hx2.size
        have hw2 := hx2.size
        generalize World.drewN w nq = W2 at *
        have HX2 := Lib.hid hx2
        clear hx2 HAT
        go_wp2_with fail
        have hww : IntKind.i64.wrap ((p : Int) + 1) = (p : Int) + 1 ∧ wrap64 ((p : Int) + 1) = (p : Int) + 1 := ⟨by rw [IntKind.wrap_i64]; omega, by unfold wrap64; omega⟩
        obtain ⟨hw1, hw1'⟩ := hww
        go_region_law (first
          | (refine step_append_0 _ rfl (.const (.slice none 0 0)) (.tmp 20) 22 rfl w.heap.size 63 i0 _ 7 104 Try.underlying22 hi hz0 hz1 hz2 rfl (by decide) (by rfl) (Lt w.heap.size) ⟨some ⟨gs, os, none⟩, p + 1⟩ p (flatE (xs.take p)) (by rfl) (HRP.out _ HX2.out.drew) (flatE_one _) h63a hbya hw2 ?_; intro s1 w3 hown1 hx3; replace hx3 := ((Ext.refl W2).drew).trans hx3; have m3 := (hx3.cell (o := 0) lM2).trans h0; have f3 := (hx3.frozen (o := 0) lM2).trans hfz; have lM3 := Nat.lt_of_lt_of_le lM2 hx3.size; have HX3 := Lib.hid (HX2.out.trans hx3); have hw3 := HX3.out.size; have HO1 := Lib.hid hown1; clear hown1 hx3)
          | (refine step_append_x _ rfl (.tmp 21) (.tmp 28) 22 rfl w.heap.size 63 i0 _ 7 104 Try.underlying22 hi hz0 hz1 hz2 rfl (by decide) s1 p (flatE (xs.take p)) (by rfl) HO1.out (Lt w.heap.size) ⟨some ⟨gs, os, none⟩, 0⟩ 0 [] (by rfl) (HRQ.out _ HX3.out) HON.out h63c hbyc hw3 ?_; intro s2 w4 hown2 hwr2 hs2; have hn4 := hwr2.cell0 (o := 0) (Ext.refl w3) (fun e => Nat.lt_irrefl _ (Nat.lt_of_lt_of_le lM (own_row (s := s1) HO1.out e).1)) lM3; have m4 := hn4.1.trans m3; have lM4 := hn4.2; have HX4 := Lib.hid (HX3.out.wr hwr2 (fun i hi => (own_row (s := s1) HO1.out hi).1)); have f4 : w4.frozen? ⟨M, 0, none⟩ = false := by have h1 := HX4.out.frozen (o := 0) lM; have h2 := HX3.out.frozen (o := 0) lM; rw [h1, ← h2]; exact f3
             have HO2 := Lib.hid hown2; clear hown2 hwr2 hs2 hn4))
        all_goals
          clear hw1 hw1'
          have hfl : flatE (xs.take p ++ xs.drop (p + 1)) = flatE (xs.take p) ++ flatE (xs.drop (p + 1)) := flatE_app _ _
          have hpu : (xs.take p ++ xs.drop (p + 1)).length = p + (xs.length - (p + 1)) := HPUT.out
          have hzz : xs.length - (p + 1) = 0 := by omega
          have hdd : xs.drop (p + 1) = [] := List.drop_eq_nil_iff.2 (by omega)
          rw [hzz] at hpu
          rw [hdd] at hfl
          rw [hdd] at hpu HEND HE
          have hfin := HEND.out w4 s2 HX4.out (by rw [hpu, hfl]; exact HO2.out) (by rw [hpu]; omega) HE.out
          rw [hpu] at hfin
          have HFIN := Lib.hid hfin
          clear hfin
          go_wp2_with fail
          go_ret
          exact ⟨by rw [HG.out]; rfl, HFIN.out⟩
      · have hcap' : ¬ p + 1 = sc := fun e => hcap e.symm
        have hrq : ∀ W, Ext w W → Rd W (Lt w.heap.size) 7 ⟨some ⟨gs, os + (p + 1) * 7, none⟩, sc - (p + 1)⟩ (xs.length - (p + 1)) (flatE (xs.drop (p + 1))) := fun W hW => by have := ((HRD.out W hW).drop (m := p + 1) (by omega)).rd; rwa [List.length_drop] at this
        have hrp : ∀ W, Ext w W → Rd W (Lt w.heap.size) 7 ⟨some ⟨gs, os, none⟩, sc⟩ p (flatE (xs.take p)) := fun W hW => by have := ((HRD.out W hW).take (Nat.le_of_lt hpl)).rd; rwa [List.length_take, Nat.min_eq_left (Nat.le_of_lt hpl)] at this
        have HRQ := Lib.hid hrq
        have HRP := Lib.hid hrp
        have hon : ∀ u ∈ ((flatE (xs.drop (p + 1))) : List Value), u.oneCell' = true := flatE_one _
        have HON := Lib.hid hon
        have h63c : p + (xs.length - (p + 1)) ≤ maxLen := by unfold maxLen; omega
        have hbyc : (p + (xs.length - (p + 1))) * 104 ≤ 140737488355328 := by omega
        clear hrq hrp hon
        go_enter Try.func27, Try.ntmps27
        go_wp2_with fail
        refine HAT.out.mono ?_
        rintro e w2 ⟨rfl, nq, rfl⟩
        have hx2 := (Ext.refl w).drewN nq
        replace h0 := (hx2.cell lM).trans h0
        replace hfz := (hx2.frozen (o := 0) lM).trans hfz
        have lM2 := Nat.lt_of_lt_of_le lM hx2.size
        have hw2 := hx2.size
        generalize World.drewN w nq = W2 at *
        have HX2 := Lib.hid hx2
        clear hx2 HAT
        go_wp2_with fail
        have hww : IntKind.i64.wrap ((p : Int) + 1) = (p : Int) + 1 ∧ wrap64 ((p : Int) + 1) = (p : Int) + 1 := ⟨by rw [IntKind.wrap_i64]; omega, by unfold wrap64; omega⟩
        obtain ⟨hw1, hw1'⟩ := hww
        go_region_law (first
          | (refine step_append_0 _ rfl (.const (.slice none 0 0)) (.tmp 20) 22 rfl w.heap.size 63 i0 _ 7 104 Try.underlying22 hi hz0 hz1 hz2 rfl (by decide) (by rfl) (Lt w.heap.size) ⟨some ⟨gs, os, none⟩, sc⟩ p (flatE (xs.take p)) (by rfl) (HRP.out _ HX2.out.drew) (flatE_one _) h63a hbya hw2 ?_; intro s1 w3 hown1 hx3; replace hx3 := ((Ext.refl W2).drew).trans hx3; have m3 := (hx3.cell (o := 0) lM2).trans h0; have f3 := (hx3.frozen (o := 0) lM2).trans hfz; have lM3 := Nat.lt_of_lt_of_le lM2 hx3.size; have HX3 := Lib.hid (HX2.out.trans hx3); have hw3 := HX3.out.size; have HO1 := Lib.hid hown1; clear hown1 hx3)
          | (refine step_append_x _ rfl (.tmp 21) (.tmp 28) 22 rfl w.heap.size 63 i0 _ 7 104 Try.underlying22 hi hz0 hz1 hz2 rfl (by decide) s1 p (flatE (xs.take p)) (by rfl) HO1.out (Lt w.heap.size) ⟨some ⟨gs, os + (p + 1) * 7, none⟩, sc - (p + 1)⟩ (xs.length - (p + 1)) (flatE (xs.drop (p + 1))) (by rfl) (HRQ.out _ HX3.out) HON.out h63c hbyc hw3 ?_; intro s2 w4 hown2 hwr2 hs2; have hn4 := hwr2.cell0 (o := 0) (Ext.refl w3) (fun e => Nat.lt_irrefl _ (Nat.lt_of_lt_of_le lM (own_row (s := s1) HO1.out e).1)) lM3; have m4 := hn4.1.trans m3; have lM4 := hn4.2; have HX4 := Lib.hid (HX3.out.wr hwr2 (fun i hi => (own_row (s := s1) HO1.out hi).1)); have f4 : w4.frozen? ⟨M, 0, none⟩ = false := by have h1 := HX4.out.frozen (o := 0) lM; have h2 := HX3.out.frozen (o := 0) lM; rw [h1, ← h2]; exact f3
             have HO2 := Lib.hid hown2; clear hown2 hwr2 hs2 hn4))
        all_goals
          clear hw1 hw1'
          have hfl : flatE (xs.take p ++ xs.drop (p + 1)) = flatE (xs.take p) ++ flatE (xs.drop (p + 1)) := flatE_app _ _
          have hpu : (xs.take p ++ xs.drop (p + 1)).length = p + (xs.length - (p + 1)) := HPUT.out
          have hfin := HEND.out w4 s2 HX4.out (by rw [hpu, hfl]; exact HO2.out) (by rw [hpu]; omega) HE.out
          rw [hpu] at hfin
          have HFIN := Lib.hid hfin
          clear hfin
          go_wp2_with fail
          go_ret
          exact ⟨by rw [HG.out]; rfl, HFIN.out⟩
end Go.Proofs.Ytohajcflklejjaa
namespace Go.Proofs.Ytohajcflklejjaa
open Go.RowKit
set_option linter.unusedVariables false
set_option linter.unusedSimpArgs false
set_option maxRecDepth 100000 in
set_option maxHeartbeats 800000 in
theorem height06 : ∀ (n : Nat) (d : Sh) (w : World) (se sk : Sl), heightS d = n → n ≤ 1000000 → RS w (Lt w.heap.size) d se sk → Calls Try.prog 21 #[aggS d se sk] w fun e w' => e = .returned (.int .i64 n) ∧ Ext w w' := by
  intro n
  induction n with
  | zero =>
    intro d w se sk hn hb h
    obtain ⟨es, ks⟩ := d
    cases ks with
    | cons k ks => simp [heightS, heightL] at hn
    | nil =>
      clear hn h
      show Calls _ _ #[.agg #[.slice se.a es.length se.c, .slice sk.a 0 sk.c]] _ _
      go_enter Try.func21, Try.ntmps21
      go_wp2_with fail
      go_ret
      exact ⟨rfl, (Ext.refl w).alloc _ _⟩
  | succ n ih =>
    intro d w se sk hn hb h
    obtain ⟨es, ks⟩ := d
    cases ks with
    | nil => simp [heightS, heightL] at hn
    | cons k ks =>
      have hk : heightS k = n := by simp only [heightS, heightL] at hn; omega
      have hfew := h.few.1
      obtain ⟨b, o, s1, s2, hsa, lb, hc, hcm, ⟨c0, c1⟩, hr⟩ := h.kid (j := 0) (k := k) rfl
      obtain ⟨ska, skc⟩ := sk
      dsimp only [Sh.ks] at hsa hc hcm hfew
      subst hsa
      have hx : Ext w (w.alloc (.cells #[.slice se.a es.length se.c, .slice (some ⟨b, o, none⟩) (k :: ks).length skc] 25)) := (Ext.refl w).alloc _ _
      have hcall := ih k _ s1 s2 hk (by omega) ((hr.agree (hx.agree fun _ h => h)).mono fun i hi => Nat.lt_of_lt_of_le hi hx.size)
      have lb : b < w.heap.size := lb
      have HX := Lib.hid hx
      have hlp : (0 : Int) < ((k :: ks).length : Int) := by simp
      have hle : (((k :: ks).length : Int) == 0) = false := beq_eq_false_iff_ne.2 (by omega)
      rw [Nat.zero_mul, Nat.add_zero] at c0 c1
      clear hn hr hx ih hk
      show Calls _ _ #[.agg #[.slice se.a es.length se.c, .slice (some ⟨b, o, none⟩) (k :: ks).length skc]] _ _
      generalize (k :: ks).length = m at *
      go_enter Try.func21, Try.ntmps21
      go_wp2_with fail
      refine hcall.mono ?_
      rintro e w2 ⟨rfl, hx2⟩
      have HX2 := Lib.hid (HX.out.trans hx2)
      clear hx2 hcall
      go_wp2_with fail
      go_ret
      refine ⟨?_, HX2.out⟩
      rw [Int.add_comm]; rfl
end Go.Proofs.Ytohajcflklejjaa
