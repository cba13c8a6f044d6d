/- What lies in memory is one datum: values, entries, nodes, trees that are read at the same place are the same. No program in sight. -/
import Derived.Test.YtpapoalgocmlaaaMb
namespace Go.Proofs.Ytpapoalgocmlaaa
open Go.RowKit
set_option linter.unusedVariables false

theorem VCells.det {w : World} {b o : Nat} {d d' : Val} {sl so sl' so' : Sl} (h : VCells w b o d sl so) (h' : VCells w b o d' sl' so') :
    d.kind = d'.kind ∧ d.b = d'.b ∧ d.i = d'.i ∧ d.t = d'.t ∧ d.l.length = d'.l.length ∧ d.ok.length = d'.ok.length ∧ sl = sl' ∧ so = so' := by
  have e0 := h.c0.symm.trans h'.c0
  have e1 := h.c1.symm.trans h'.c1
  have e2 := h.c2.symm.trans h'.c2
  have e3 := h.c3.symm.trans h'.c3
  have e4 := h.c4.symm.trans h'.c4
  have e5 := h.c5.symm.trans h'.c5
  obtain ⟨a, c⟩ := sl
  obtain ⟨a', c'⟩ := sl'
  obtain ⟨f, g⟩ := so
  obtain ⟨f', g'⟩ := so'
  simp only [Option.some.injEq, Value.int.injEq, Value.bool.injEq, Value.string.injEq, Value.slice.injEq, true_and] at e0 e1 e2 e3 e4 e5
  obtain ⟨rfl, e4, rfl⟩ := e4
  obtain ⟨rfl, e5, rfl⟩ := e5
  exact ⟨e0, e1, e2, e3, e4, e5, rfl, rfl⟩
theorem SlAt.same {F F' : Nat → Prop} {s : Sl} {n b o b' o' : Nat} (h : SlAt F s n b o) (h' : SlAt F' s n b' o') (hn : 0 < n) : b = b' ∧ o = o' := by
  have e := (h.eq hn).1.symm.trans (h'.eq hn).1
  simpa using e
theorem Val.ext_of {d d' : Val} (h1 : d.kind = d'.kind) (h2 : d.b = d'.b) (h3 : d.i = d'.i) (h4 : d.t = d'.t) (h5 : d.l = d'.l) (h6 : d.ok = d'.ok) (h7 : d.ov = d'.ov) : d = d' := by
  cases d; cases d'
  simp only [Val.kind, Val.b, Val.i, Val.t, Val.l, Val.ok, Val.ov] at *
  subst_vars; rfl
/-- What two slices lead to, read twice. -/
theorem RV.det {w : World} {F F' : Nat → Prop} (m : Nat) : ∀ {d d' : Val} {sl so : Sl}, SizeOf.sizeOf d ≤ m → RV w F d sl so → RV w F' d' sl so → d.l.length = d'.l.length → d.ok.length = d'.ok.length → d.l = d'.l ∧ d.ok = d'.ok ∧ d.ov = d'.ov := by
  induction m with
  | zero => intro d _ _ _ hm; have := Val.sz_pos d; omega
  | succ m ih =>
    intro d d' sl so hm h h' hll hoo
    cases h with
    | @mk kind vb vi vt l ok ov _ _ bl fl bo fo cl co hl ho hov el rl ek eo ro =>
    cases h' with
    | @mk kind' vb' vi' vt' l' ok' ov' _ _ bl' fl' bo' fo' cl' co' hl' ho' hov' el' rl' ek' eo' ro' =>
    have one : ∀ {b o : Nat} {x x' : Val} {s s' t t' : Sl}, SizeOf.sizeOf x ≤ m → VCells w b o x s t → VCells w b o x' s' t' → RV w F x s t → RV w F' x' s' t' → x = x' := fun hs c c' r r' => by
      obtain ⟨h1, h2, h3, h4, h5, h6, rfl, rfl⟩ := c.det c'
      obtain ⟨k1, k2, k3⟩ := ih hs r r' h5 h6
      exact Val.ext_of h1 h2 h3 h4 k1 k2 k3
    simp only [Val.l, Val.ok, Val.ov] at hll hoo ⊢
    refine ⟨List.ext_getElem? fun j => ?_, List.ext_getElem? fun j => ?_, List.ext_getElem? fun j => ?_⟩
    · by_cases hj : j < l.length
      · obtain ⟨x, hx⟩ : ∃ x, l[j]? = some x := ⟨_, List.getElem?_eq_getElem hj⟩
        obtain ⟨x', hx'⟩ : ∃ x', l'[j]? = some x' := ⟨_, List.getElem?_eq_getElem (by omega)⟩
        obtain ⟨rfl, rfl⟩ := hl.same (hll ▸ hl') (by omega)
        rw [hx, hx', one (by have := Val.sz_l (k := kind) (b := vb) (i := vi) (t := vt) (ok := ok) (ov := ov) hx; omega) (el j x hx) (el' j x' hx') (rl j x hx) (rl' j x' hx')]
      · rw [List.getElem?_eq_none (by omega), List.getElem?_eq_none (by omega)]
    · by_cases hj : j < ok.length
      · obtain ⟨x, hx⟩ : ∃ x, ok[j]? = some x := ⟨_, List.getElem?_eq_getElem hj⟩
        obtain ⟨x', hx'⟩ : ∃ x', ok'[j]? = some x' := ⟨_, List.getElem?_eq_getElem (by omega)⟩
        obtain ⟨rfl, rfl⟩ := ho.same (hoo ▸ ho') (by omega)
        have e := (ek j x hx).1.symm.trans (ek' j x' hx').1
        simp only [Option.some.injEq, Value.string.injEq] at e
        rw [hx, hx', e]
      · rw [List.getElem?_eq_none (by omega), List.getElem?_eq_none (by omega)]
    · by_cases hj : j < ov.length
      · obtain ⟨x, hx⟩ : ∃ x, ov[j]? = some x := ⟨_, List.getElem?_eq_getElem hj⟩
        obtain ⟨x', hx'⟩ : ∃ x', ov'[j]? = some x' := ⟨_, List.getElem?_eq_getElem (by omega)⟩
        obtain ⟨rfl, rfl⟩ := ho.same (hoo ▸ ho') (by omega)
        rw [hx, hx', one (by have := Val.sz_o (k := kind) (b := vb) (i := vi) (t := vt) (l := l) (ok := ok) hx; omega) (eo j x hx) (eo' j x' hx') (ro j x hx) (ro' j x' hx')]
      · rw [List.getElem?_eq_none (by omega), List.getElem?_eq_none (by omega)]
/-- Entries read twice. -/
theorem ES.det {w : World} {F F' : Nat → Prop} {s : Sl} {xs ys : List LE} (h : ES w F s xs) (h' : ES w F' s ys) (hl : xs.length = ys.length) : xs.map LE.ent = ys.map LE.ent := by
  refine List.ext_getElem? fun j => ?_
  rw [List.getElem?_map, List.getElem?_map]
  by_cases hj : j < xs.length
  · obtain ⟨x, hx⟩ : ∃ x, xs[j]? = some x := ⟨_, List.getElem?_eq_getElem hj⟩
    obtain ⟨y, hy⟩ : ∃ y, ys[j]? = some y := ⟨_, List.getElem?_eq_getElem (by omega)⟩
    obtain ⟨b, o, ha, -, -, -, k1, c1, r1, -⟩ := h.at hx
    obtain ⟨b', o', ha', -, -, -, k2, c2, r2, -⟩ := h'.at hy
    obtain ⟨rfl, rfl⟩ : b = b' ∧ o = o' := by have := ha.symm.trans ha'; simpa using this
    have e := k1.symm.trans k2
    simp only [Option.some.injEq, Value.string.injEq] at e
    obtain ⟨xk, xv, xsl, xso⟩ := x
    obtain ⟨yk, yv, ysl, yso⟩ := y
    obtain ⟨h1, h2, h3, h4, h5, h6, e7, e8⟩ := c1.det c2
    dsimp only at *
    subst e7 e8
    obtain ⟨q1, q2, q3⟩ := RV.det _ (Nat.le_refl _) r1 r2 h5 h6
    rw [hx, hy]
    simp only [Option.map_some, LE.ent, e, Val.ext_of h1 h2 h3 h4 q1 q2 q3]
  · rw [List.getElem?_eq_none (by omega), List.getElem?_eq_none (by omega)]
theorem IsN.heights {w : World} {F F' : Nat → Prop} {h h' : Nat} {t : PT h} {t' : PT h'} (a : IsN w F h t) (b : IsN w F' h' t') (e : addr h t = addr h' t') : h = h' := by
  obtain ⟨-, _, _, _, _, -, h1⟩ := a.cells
  obtain ⟨-, _, _, _, _, -, h2⟩ := b.cells
  rw [e] at h1
  have := h1.c7.2.2.1.symm.trans h2.c7.2.2.1
  simp only [Option.some.injEq, Value.int.injEq, true_and] at this
  omega
theorem IsN.det {w : World} {F F' : Nat → Prop} : ∀ {h : Nat} {t t' : PT h}, IsN w F h t → IsN w F' h t' → addr h t = addr h t' → t = t'
  | 0, (a, es), (a', es'), ⟨_, s, xs, h2, h3, h4⟩, ⟨_, s', xs', h2', h3', h4'⟩, e => by
    have e : a = a' := e
    subst e
    have c := (h2.c7.1).symm.trans h2'.c7.1
    simp only [Option.some.injEq, Value.slice.injEq] at c
    obtain ⟨sa, sc⟩ := s
    obtain ⟨sa', sc'⟩ := s'
    dsimp only at c
    obtain ⟨rfl, hl, rfl⟩ := c
    have := h3.det h3' hl
    have h4 : xs.map LE.ent = es := h4
    have h4' : xs'.map LE.ent = es' := h4'
    rw [← h4, ← h4', this]
  | h + 1, (a, ks), (a', ks'), ⟨_, s, h2, h3, h4⟩, ⟨_, s', h2', h3', h4'⟩, e => by
    have e : a = a' := e
    subst e
    have c := (h2.c7.2.1).symm.trans h2'.c7.2.1
    simp only [Option.some.injEq, Value.slice.injEq] at c
    obtain ⟨sa, sc⟩ := s
    obtain ⟨sa', sc'⟩ := s'
    dsimp only at c
    obtain ⟨rfl, hl, rfl⟩ := c
    have h4 : ∀ k ∈ ks, IsN w F h k := h4
    have h4' : ∀ k ∈ ks', IsN w F' h k := h4'
    have hks : ks = ks' := by
      refine List.ext_getElem? fun j => ?_
      by_cases hj : j < ks.length
      · obtain ⟨x, hx⟩ : ∃ x, ks[j]? = some x := ⟨_, List.getElem?_eq_getElem hj⟩
        obtain ⟨y, hy⟩ : ∃ y, ks'[j]? = some y := ⟨_, List.getElem?_eq_getElem (by omega)⟩
        obtain ⟨b, o, ha, -, -, -, k1⟩ := Rd.ptr_at h3 hx
        obtain ⟨b', o', ha', -, -, -, k2⟩ := Rd.ptr_at h3' hy
        obtain ⟨rfl, rfl⟩ : b = b' ∧ o = o' := by have := ha.symm.trans ha'; simpa using this
        have e := k1.symm.trans k2
        simp only [Option.some.injEq, Value.pointer.injEq, Addr.mk.injEq, and_true] at e
        rw [hx, hy, IsN.det (h4 x (List.mem_of_getElem? hx)) (h4' y (List.mem_of_getElem? hy)) e]
      · rw [List.getElem?_eq_none (by omega), List.getElem?_eq_none (by omega)]
    rw [hks]
/-- Trees with the same root. -/
theorem IsT.det {w : World} {F F' : Nat → Prop} {T T' : RT} (h : IsT w F T) (h' : IsT w F' T') (e : rootV T = rootV T') : T = T' := by
  match T, T', h, h', e with
  | none, none, _, _, _ => rfl
  | none, some ⟨_, _⟩, _, _, e => simp [rootV] at e
  | some ⟨_, _⟩, none, _, _, e => simp [rootV] at e
  | some ⟨n, t⟩, some ⟨n', t'⟩, h, h', e =>
    have e : addr n t = addr n' t' := by simpa [rootV] using e
    have h : IsN w F n t := h
    have h' : IsN w F' n' t' := h'
    have hh := h.heights h' e
    subst hh
    rw [h.det h' e]
end Go.Proofs.Ytpapoalgocmlaaa
