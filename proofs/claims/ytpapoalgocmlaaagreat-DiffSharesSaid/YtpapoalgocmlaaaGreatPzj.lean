/- What the theorem needs of the texts DiffO, DiffV, Count, Has: no condition of its own. -/
import Derived.Test.YtpapoalgocmlaaaGreatPza
import Derived.Test.YtpapoalgocmlaaaGreatPzb
import Derived.Test.YtpapoalgocmlaaaGreatPzc
import Derived.Test.YtpapoalgocmlaaaGreatPzd
import Derived.Test.YtpapoalgocmlaaaGreatPze
import Derived.Test.YtpapoalgocmlaaaGreatPzf
import Derived.Test.YtpapoalgocmlaaaGreatPzg
import Derived.Test.YtpapoalgocmlaaaGreatPzh
namespace Go.Proofs.YtpapoalgocmlaaaGreat
open Go.RowKit
set_option linter.unusedVariables false
abbrev SubA (c n : AN) : Prop := Sub c.1 c.2 n.1 n.2
def Below9 (c : AN) (x : CurS) : Prop := ∃ n ∈ x.ns, SubA c n
theorem sub_same9 {k h : Nat} {u : PT k} {t : PT h} (hs : Sub k u h t) (e : h ≤ k) : (⟨k, u⟩ : AN) = ⟨h, t⟩ := by
  cases h with
  | zero => exact hs
  | succ h =>
    rcases hs with e1 | ⟨kid, hm, hs⟩
    · exact e1
    · have := hs.le; omega
theorem last_of9 {es : List Ent} (h : es ≠ []) : ∃ e ∈ es, lastK es = e.1 := lastK_mem (List.length_pos_iff.2 h)
theorem first_of9 {es : List Ent} (h : es ≠ []) : ∃ e ∈ es, firstK es = e.1 := firstK_mem (List.length_pos_iff.2 h)
theorem below_cont {c : AN} {ns : List AN} {n : AN} (hn : n ∈ ns) (hs : SubA c n) : ∀ e ∈ c.es, e ∈ contE ns := fun e he => List.mem_flatMap.2 ⟨n, List.mem_reverse.2 hn, Sub.ents hs e he⟩
theorem cont_node {y : CurS} {b : AN} (h : y.node = some b) : y.cont = b.es ++ contE y.ns.dropLast ∧ y.last = lastK b.es ∧ y.first = firstK b.es := by
  obtain ⟨h1, h2, h3⟩ := y.node_some h
  obtain ⟨es, ns, o⟩ := y
  dsimp only at h1 h2 h3
  subst h1
  refine ⟨?_, by simp [CurS.last, h3], by simp [CurS.first, h3]⟩
  show [] ++ contE ns = _
  rw [List.nil_append]
  conv => lhs; rw [h2]
  exact contE_snoc _ _
theorem first_le9 {y : CurS} (sy : Sorted y.cont) (ok : y.ok) (hng : ¬ y.gone) {e : Ent} (he : e ∈ y.cont) : klt e.1 y.first = false := by
  obtain ⟨f, l, h1, h2⟩ := y.first_cont ok hng
  rw [h1] at he sy
  rw [h2]
  rcases List.mem_cons.1 he with rfl | he
  · exact klt_irrefl _
  · exact klt_asymm ((List.pairwise_cons.1 sy).1 e he)
theorem ahead9 {y : CurS} (sy : Sorted y.cont) (ok : y.ok) {c : AN} (hc : c.ok) (hlt : klt (lastK c.es) y.first = true) (hb : Below9 c y) : False := by
  obtain ⟨n, hn, hs⟩ := hb
  have hng : ¬ y.gone := fun h => by rw [h.2] at hn; cases hn
  obtain ⟨e, he, h1⟩ := last_of9 (AN.ne hc)
  have := first_le9 sy ok hng (List.mem_append.2 (.inr (below_cont hn hs e he)))
  rw [← h1, hlt] at this
  cases this
theorem past9 {y : CurS} (sy : Sorted y.cont) (ok : y.ok) {c : AN} (hc : c.ok) (hle : klt y.last (firstK c.es) = false) (hb : Below9 c y) : ∃ b, y.node = some b ∧ SubA c b := by
  obtain ⟨n, hn, hs⟩ := hb
  have hng : ¬ y.gone := fun h => by rw [h.2] at hn; cases hn
  obtain ⟨e, he, h1⟩ := first_of9 (AN.ne hc)
  cases hy : y.node with
  | none =>
    obtain ⟨f, fs, h2⟩ := CurS.node_none hy hng
    obtain ⟨h3, -, h4, -⟩ := y.cont_entry h2
    exfalso
    rw [h3] at sy
    have := (List.pairwise_cons.1 sy).1 e (List.mem_append.2 (.inr (below_cont hn hs e he)))
    rw [← h4, ← h1, hle] at this
    cases this
  | some b =>
    obtain ⟨-, h2, h3⟩ := y.node_some hy
    obtain ⟨h4, h5, -⟩ := cont_node hy
    refine ⟨b, rfl, ?_⟩
    rw [h2] at hn
    rcases List.mem_append.1 hn with hn | hn
    · exfalso
      obtain ⟨f, hf, h6⟩ := last_of9 (AN.ne (ok b (List.mem_of_getLast? h3)))
      rw [h4] at sy
      have := (sorted_app sy).2.2 f hf e (below_cont hn hs e he)
      rw [← h6, ← h5, ← h1, hle] at this
      cases this
    · obtain rfl := List.mem_singleton.1 hn
      exact hs
theorem below_skip {x : CurS} (sx : Sorted x.cont) {a : AN} (hx : x.node = some a) {c : AN} (hc : c.ok) : Below9 c x.skip ↔ Below9 c x ∧ ¬ SubA c a := by
  obtain ⟨-, h2, h3⟩ := x.node_some hx
  obtain ⟨h4, -, -⟩ := cont_node hx
  constructor
  · rintro ⟨n, hn, hs⟩
    refine ⟨⟨n, List.dropLast_subset _ hn, hs⟩, fun hca => ?_⟩
    obtain ⟨e, he, -⟩ := first_of9 (AN.ne hc)
    rw [h4] at sx
    have := (sorted_app sx).2.2 e (Sub.ents hca e he) e (below_cont hn hs e he)
    rw [klt_irrefl] at this
    cases this
  · rintro ⟨⟨n, hn, hs⟩, hca⟩
    rw [h2] at hn
    rcases List.mem_append.1 hn with hn | hn
    · exact ⟨n, hn, hs⟩
    · obtain rfl := List.mem_singleton.1 hn
      exact absurd hs hca
theorem below_open {x : CurS} {a : AN} (hx : x.node = some a) {c : AN} : Below9 c x ↔ c = a ∨ Below9 c x.open_ := by
  obtain ⟨-, h2, h3⟩ := x.node_some hx
  obtain ⟨h, t⟩ := a
  cases h with
  | zero =>
    have ho : x.open_.ns = x.ns.dropLast := by simp only [CurS.open_, h3]
    constructor
    · rintro ⟨n, hn, hs⟩
      rw [h2] at hn
      rcases List.mem_append.1 hn with hn | hn
      · exact .inr ⟨n, by rw [ho]; exact hn, hs⟩
      · obtain rfl := List.mem_singleton.1 hn
        exact .inl hs
    · rintro (rfl | ⟨n, hn, hs⟩)
      · exact ⟨_, List.mem_of_getLast? h3, Sub.refl _⟩
      · rw [ho] at hn
        exact ⟨n, List.dropLast_subset _ hn, hs⟩
  | succ h =>
    have ho : x.open_.ns = x.ns.dropLast ++ (kidsA h t).reverse := by simp only [CurS.open_, h3]
    constructor
    · rintro ⟨n, hn, hs⟩
      rw [h2] at hn
      rcases List.mem_append.1 hn with hn | hn
      · exact .inr ⟨n, by rw [ho]; exact List.mem_append.2 (.inl hn), hs⟩
      · obtain rfl := List.mem_singleton.1 hn
        rcases hs with e | ⟨kid, hm, hs⟩
        · exact .inl e
        · exact .inr ⟨⟨h, kid⟩, by rw [ho]; exact List.mem_append.2 (.inr (List.mem_reverse.2 (List.mem_map.2 ⟨kid, hm, rfl⟩))), hs⟩
    · rintro (rfl | ⟨n, hn, hs⟩)
      · exact ⟨_, List.mem_of_getLast? h3, Sub.refl _⟩
      · rw [ho] at hn
        rcases List.mem_append.1 hn with hn | hn
        · exact ⟨n, List.dropLast_subset _ hn, hs⟩
        · obtain ⟨kid, hm, rfl⟩ := List.mem_map.1 (List.mem_reverse.1 hn)
          exact ⟨_, List.mem_of_getLast? h3, .inr ⟨kid, hm, hs⟩⟩
def pot9 (has : (k : Nat) → PT k → Bool) (x : CurS) : Nat := x.o + (x.ns.map fun a => freshN has a.1 a.2).sum
theorem pot_open {has : (k : Nat) → PT k → Bool} {x : CurS} {a : AN} (hx : x.node = some a) (hn : has a.1 a.2 = false) : pot9 has x.open_ = pot9 has x := by
  obtain ⟨-, h2, h3⟩ := x.node_some hx
  have e : (x.ns.map fun a => freshN has a.1 a.2).sum = (x.ns.dropLast.map fun a => freshN has a.1 a.2).sum + freshN has a.1 a.2 := by
    conv => lhs; rw [h2]
    simp
  obtain ⟨h, t⟩ := a
  cases h with
  | zero =>
    have e1 : freshN has 0 t = 1 := by simp [freshN]; exact hn
    simp only [CurS.open_, h3, pot9]
    dsimp only at e
    omega
  | succ h =>
    have e1 : freshN has (h + 1) t = 1 + (t.2.map (freshN has h)).sum := by
      have hn' : has (h + 1) t = false := hn
      simp [freshN, hn']
    have e2 : ((kidsA h t).reverse.map fun a => freshN has a.1 a.2).sum = (t.2.map (freshN has h)).sum := by
      rw [List.map_reverse, List.sum_reverse, kidsA, List.map_map]; rfl
    simp only [CurS.open_, h3, pot9, List.map_append, List.sum_append, e2]
    dsimp only at e
    omega
theorem pot_skip {has : (k : Nat) → PT k → Bool} {x : CurS} {a : AN} (hx : x.node = some a) : pot9 has x.skip ≤ pot9 has x := by
  obtain ⟨-, h2, h3⟩ := x.node_some hx
  have e : (x.ns.map fun a => freshN has a.1 a.2).sum = (x.ns.dropLast.map fun a => freshN has a.1 a.2).sum + freshN has a.1 a.2 := by
    conv => lhs; rw [h2]
    simp
  simp only [CurS.skip, pot9]
  omega
theorem open_ns {x : CurS} {a : AN} (hx : x.node = some a) {T : AN → Prop} (hT : ∀ h t kid, T ⟨h + 1, t⟩ → kid ∈ t.2 → T ⟨h, kid⟩) (tx : ∀ c ∈ x.ns, T c) : ∀ c ∈ x.open_.ns, T c := by
  obtain ⟨-, h2, h3⟩ := x.node_some hx
  obtain ⟨h, t⟩ := a
  intro c hc
  cases h with
  | zero =>
    simp only [CurS.open_, h3] at hc
    exact tx c (List.dropLast_subset _ hc)
  | succ h =>
    simp only [CurS.open_, h3] at hc
    rcases List.mem_append.1 hc with hc | hc
    · exact tx c (List.dropLast_subset _ hc)
    · obtain ⟨kid, hm, rfl⟩ := List.mem_map.1 (List.mem_reverse.1 hc)
      exact hT h t kid (tx _ (List.mem_of_getLast? h3)) hm
structure Inv9 (T U : AN → Prop) (x y : CurS) : Prop where
  sx : Sorted x.cont
  sy : Sorted y.cont
  okx : x.ok
  oky : y.ok
  tx : ∀ c ∈ x.ns, T c
  ty : ∀ c ∈ y.ns, U c
  both : ∀ c, c.ok → T c → U c → (Below9 c x ↔ Below9 c y)
section
variable {T U : AN → Prop} {x y x' y' : CurS} {l : List Chg}
theorem Inv9.newX (h : Inv9 T U x y) {a : AN} (hx : x.node = some a) (hc : y.gone ∨ klt x.last y.first = true ∨ (klt x.last y.first = false ∧ klt y.last x.first = false ∧ ¬ y.gone ∧ y.height < a.1)) : ¬ U a := by
  intro hU
  have hm := List.mem_of_getLast? (x.node_some hx).2.2
  have oka := h.okx a hm
  have hb : Below9 a y := (h.both a oka (h.tx a hm) hU).1 ⟨a, hm, Sub.refl _⟩
  obtain ⟨-, h5, h6⟩ := cont_node hx
  rcases hc with hg | hlt | ⟨-, hr, hng, hh⟩
  · obtain ⟨n, hn, -⟩ := hb
    rw [hg.2] at hn; cases hn
  · rw [h5] at hlt
    exact ahead9 h.sy h.oky oka hlt hb
  · rw [h6] at hr
    obtain ⟨b, hy, hs⟩ := past9 h.sy h.oky oka hr hb
    rw [y.height_node hy] at hh
    have := Sub.le hs
    omega
theorem Inv9.newY (h : Inv9 T U x y) {b : AN} (hy : y.node = some b) (hne : ¬ sameN x y) (hc : x.gone ∨ klt y.last x.first = true ∨ (klt x.last y.first = false ∧ klt y.last x.first = false ∧ ¬ x.gone ∧ x.height ≤ b.1)) : ¬ T b := by
  intro hU
  have hm := List.mem_of_getLast? (y.node_some hy).2.2
  have okb := h.oky b hm
  have hb : Below9 b x := (h.both b okb hU (h.ty b hm)).2 ⟨b, hm, Sub.refl _⟩
  obtain ⟨-, h5, h6⟩ := cont_node hy
  rcases hc with hg | hlt | ⟨hr, -, hng, hh⟩
  · obtain ⟨n, hn, -⟩ := hb
    rw [hg.2] at hn; cases hn
  · rw [h5] at hlt
    exact ahead9 h.sx h.okx okb hlt hb
  · rw [h6] at hr
    obtain ⟨a, hx, hs⟩ := past9 h.sx h.okx okb hr hb
    rw [x.height_node hx] at hh
    have e : b = a := sub_same9 hs (by omega)
    exact hne ⟨a, b, hx, hy, by rw [e]⟩
variable (hT : ∀ h t kid, T ⟨h + 1, t⟩ → kid ∈ t.2 → T ⟨h, kid⟩) (hU : ∀ h t kid, U ⟨h + 1, t⟩ → kid ∈ t.2 → U ⟨h, kid⟩)
include hT hU in
theorem Inv9.step (h : Inv9 T U x y) (hs : Step x y x' y' l) : Inv9 T U x' y' := by
  obtain ⟨ox, oy⟩ := hs.ok h.okx h.oky
  have htl : ∀ {e : Ent} {es : List Ent} {z : CurS}, z.es = e :: es → Sorted z.cont → Sorted z.take.cont := fun hz s => by
    rw [(CurS.cont_entry hz).1] at s
    exact (List.pairwise_cons.1 s).2
  cases hs with
  | skip h1 h2 =>
    refine ⟨?_, ?_, ox, oy, fun c hc => h.tx c (List.dropLast_subset _ hc), fun c hc => h.ty c (List.dropLast_subset _ hc), fun c okc h3 h4 => ?_⟩
    · have := h.sx; rw [(x.cont_open h1).2] at this; exact (sorted_app this).2.1
    · have := h.sy; rw [(y.cont_open h2).2] at this; exact (sorted_app this).2.1
    · rw [below_skip h.sx h1 okc, below_skip h.sy h2 okc, h.both c okc h3 h4]
  | openX h1 hne hc =>
    have hn := h.newX h1 hc
    refine ⟨by rw [(x.cont_open h1).1]; exact h.sx, h.sy, ox, oy, open_ns h1 hT h.tx, h.ty, fun c okc h3 h4 => ?_⟩
    rw [← h.both c okc h3 h4, below_open h1]
    exact ⟨.inr, fun e => e.elim (fun e => absurd (e ▸ h4) hn) id⟩
  | openY h1 hne hc =>
    have hn := h.newY h1 hne hc
    refine ⟨h.sx, by rw [(y.cont_open h1).1]; exact h.sy, ox, oy, h.tx, open_ns h1 hU h.ty, fun c okc h3 h4 => ?_⟩
    rw [h.both c okc h3 h4, below_open h1]
    exact ⟨fun e => e.elim (fun e => absurd (e ▸ h3) hn) id, .inr⟩
  | gone h1 hc => exact ⟨htl h1 h.sx, h.sy, ox, oy, h.tx, h.ty, h.both⟩
  | come h1 hc => exact ⟨h.sx, htl h1 h.sy, ox, oy, h.tx, h.ty, h.both⟩
  | both h1 h2 hk => exact ⟨htl h1 h.sx, htl h2 h.sy, ox, oy, h.tx, h.ty, h.both⟩
variable {hasT hasU : (k : Nat) → PT k → Bool} (dT : ∀ c, U c → hasT c.1 c.2 = true → T c) (dU : ∀ c, T c → hasU c.1 c.2 = true → U c)
include dT dU in
theorem Inv9.pot (h : Inv9 T U x y) (hs : Step x y x' y' l) : pot9 hasU x' + pot9 hasT y' ≤ pot9 hasU x + pot9 hasT y := by
  cases hs with
  | skip h1 h2 => have := pot_skip (has := hasU) h1; have := pot_skip (has := hasT) h2; omega
  | openX h1 hne hc =>
    rename_i a
    have hn := h.newX h1 hc
    have := pot_open (has := hasU) h1 (by
      cases e : hasU a.1 a.2 with
      | false => rfl
      | true => exact absurd (dU a (h.tx a (List.mem_of_getLast? (x.node_some h1).2.2)) e) hn)
    omega
  | openY h1 hne hc =>
    rename_i b
    have hn := h.newY h1 hne hc
    have := pot_open (has := hasT) h1 (by
      cases e : hasT b.1 b.2 with
      | false => rfl
      | true => exact absurd (dT b (h.ty b (List.mem_of_getLast? (y.node_some h1).2.2)) e) hn)
    omega
  | gone h1 hc => exact Nat.le_refl _
  | come h1 hc => exact Nat.le_refl _
  | both h1 h2 hk => exact Nat.le_refl _
include hT hU dT dU in
theorem Run.pot {x0 y0 : CurS} (h0 : Inv9 T U x0 y0) (h : Run x0 y0 x y l) : Inv9 T U x y ∧ pot9 hasU x + pot9 hasT y ≤ pot9 hasU x0 + pot9 hasT y0 := by
  induction h with
  | start => exact ⟨h0, Nat.le_refl _⟩
  | step hr hs ih => exact ⟨ih.1.step hT hU hs, Nat.le_trans (ih.1.pot dT dU hs) ih.2⟩
end
def NodeOf (T : RT) (c : AN) : Prop := ∃ r, T = some r ∧ SubA c r
theorem NodeOf.kid {T : RT} {h : Nat} {t : PT (h + 1)} {kid : PT h} (hn : NodeOf T ⟨h + 1, t⟩) (hk : kid ∈ t.2) : NodeOf T ⟨h, kid⟩ := by
  obtain ⟨r, rfl, hs⟩ := hn
  exact ⟨r, rfl, Sub.kid hk hs⟩
theorem sub_in {w : World} {F : Nat → Prop} {k : Nat} {u : PT k} : ∀ {h : Nat} {t : PT h}, Sub k u h t → IsN w F h t → IsN w F k u
  | 0, t, hs, hn => by cases hs; exact hn
  | h + 1, t, hs, hn => by
    rcases hs with e | ⟨kid, hm, hs⟩
    · cases e; exact hn
    · exact sub_in hs (hn.2.choose_spec.2.2 kid hm)
theorem all_addr {p : Nat → Prop} : ∀ {h : Nat} {t : PT h}, (∀ k u, Sub k u h t → p (addr k u)) → AllA p h t
  | 0, t, hp => hp 0 t (Sub.refl t)
  | h + 1, t, hp => ⟨hp _ t (Sub.refl t), fun kid hm => all_addr fun k u hs => hp k u (.inr ⟨kid, hm, hs⟩)⟩
theorem has_node {w : World} {F F' : Nat → Prop} {T U : RT} (hT : IsT w F T) (hU : IsT w F' U) (ok : OkR T) {c : AN} (hc : NodeOf U c) (hh : hasR T c.1 c.2 = true) : NodeOf T c := by
  match T, hT, ok, hh with
  | none, _, _, hh => cases hh
  | some ⟨h, t⟩, hT, ok, hh =>
    obtain ⟨r, rfl, hs⟩ := hc
    simp only [hasR, decide_eq_true_eq] at hh
    have hfi := find_in (p := fun b => ∃ k u, Sub k u h t ∧ addr k u = b) (key := firstK (ents c.1 c.2)) (k := c.1) (all_addr fun k u hs => ⟨k, u, hs, rfl⟩) ok.1
    obtain ⟨k, u, hsu, ha⟩ := hfi
    have h1 : IsN w F k u := sub_in hsu hT
    have h2 : IsN w F' c.1 c.2 := sub_in hs hU
    have e : (⟨k, u⟩ : AN) = c := node_same (a := ⟨k, u⟩) (b := c) h1 h2 (ha.trans hh)
    subst e
    exact ⟨_, rfl, hsu⟩
theorem run_opened {w : World} {F F' : Nat → Prop} {T U : RT} (hT : IsT w F T) (hU : IsT w F' U) (ok : OkR T) (ok' : OkR U) {x y : CurS} {l : List Chg} (h : Run (startS T) (startS U) x y l) : x.o + y.o ≤ freshR U T + freshR T U := by
  have hst : ∀ {V : RT}, ∀ c ∈ (startS V).ns, NodeOf V c := fun {V} c hc => by
    cases V with
    | none => cases hc
    | some r =>
      obtain rfl : c = r := by simpa [startS] using hc
      exact ⟨c, rfl, Sub.refl _⟩
  have hbl : ∀ {V : RT} {c : AN}, NodeOf V c → Below9 c (startS V) := fun {V c} hc => by
    obtain ⟨r, rfl, hs⟩ := hc
    exact ⟨r, by simp [startS], hs⟩
  have hpt : ∀ {V W : RT}, pot9 (hasR W) (startS V) = freshR W V := fun {V W} => by
    cases V with
    | none => rfl
    | some r => simp [pot9, startS, freshR]
  have h0 : Inv9 (NodeOf T) (NodeOf U) (startS T) (startS U) := ⟨by rw [startS_cont]; exact ok.sorted, by rw [startS_cont]; exact ok'.sorted, startS_ok ok, startS_ok ok', hst, hst, fun c _ h1 h2 => ⟨fun _ => hbl h2, fun _ => hbl h1⟩⟩
  have := (h.pot (fun h t kid => NodeOf.kid) (fun h t kid => NodeOf.kid) (hasT := hasR T) (hasU := hasR U) (fun c h1 h2 => has_node hT hU ok h1 h2) (fun c h1 h2 => has_node hU hT ok' h1 h2) h0).2
  rw [hpt, hpt] at this
  simp only [pot9] at this
  omega
end Go.Proofs.YtpapoalgocmlaaaGreat
namespace Go.Proofs.YtpapoalgocmlaaaGreat
open Go.RowKit Go.Shelf
set_option linter.unusedVariables false
set_option linter.unusedSimpArgs false
attribute [local go_sem] Oper.semAt_some
def JN (N : Nat) (pre : List CE) (C D : Nat → Prop) (W : World) : Prop := Blk W N 3 #[.int .i64 pre.length] ∧ C = (fun b => b = N) ∧ ¬ D N
section
variable {F F' : Nat → Prop} {lo X Y N : Nat} {C : Nat → Prop} {W00 : World} {x y : CurS} {rx ry : Option Nat} {Ex Ey : Nat → Prop} {pre : List CE} {C' D : Nat → Prop} {Wj wr w' : World}
theorem WalkM.jn (h : WalkM F F' lo X Y C (JN N) W00 x y rx ry Ex Ey pre C' D Wj wr) : Blk wr N 3 #[.int .i64 pre.length] ∧ C' = fun b => b = N := ⟨h.jst.blk h.j.1 h.j.2.2, h.j.2.1⟩
theorem WalkM.cnt (h : WalkM F F' lo X Y C (JN N) W00 x y rx ry Ex Ey pre C' D Wj wr) {c : CE} (hst : St (fun b => b = N) wr w') (hb : Blk w' N 3 #[.int .i64 ((pre.length : Int) + 1)]) : WalkM F F' lo X Y C (JN N) W00 x y rx ry Ex Ey (pre ++ [c]) C' (Own X Y rx ry) w' w' := by
  have h2 := h.jn.2
  have hN : C' N := by rw [h2]
  refine h.told ⟨by rw [List.length_append, List.length_singleton]; exact hb, h2, fun ho => ?_⟩ (fun b hb' => ?_) (by rw [h2]; exact hst) (fun b hb => .inl hb)
  · rcases h.ownK ho with e | e
    · exact (h.disC N hN).1 e
    · exact (h.disC N hN).2 e
  · rw [h2] at hb'
    obtain rfl : b = N := hb'
    exact hb.lt
end
theorem count1_any {W : World} {N n : Nat} (x : CE) (hb : Blk W N 3 #[.int .i64 n]) (hn : n ≤ 2000000) : Calls Tryz.prog 20 #[x.agg, .pointer (some ⟨N, 0, none⟩)] W fun e w' => e = .returned (.bool true) ∧ St (fun b => b = N) W w' ∧ Blk w' N 3 #[.int .i64 ((n : Int) + 1)] := by
  have c0 := hb.cell 0
  have f0 := hb.frozen 0
  have l0 := hb.lt
  have HB := Lib.hid hb
  clear hb
  go_enter Tryz.func20, Tryz.ntmps20
  go_wp2_with fail
  go_ret
  exact ⟨rfl, ((St.refl (fun b => b = N) W).set (p := ⟨N, 0, none⟩) (.inr rfl) _).trans (((Ext.refl _).alloc _ _).st _), (HB.out.set_ 0 _).alloc _⟩
def CountP (F F' : Nat → Prop) (lo X Y N : Nat) (x0 y0 : CurS) (C : Nat → Prop) (W00 : World) (e : Ending) (w' : World) : Prop :=
  e = .returned (.tuple #[]) ∧ ∃ x y rx ry Ex Ey pre C' D Wj, WalkM F F' lo X Y C (JN N) W00 x y rx ry Ex Ey pre C' D Wj w' ∧ Run x0 y0 x y (pre.map CE.c) ∧ x.gone ∧ y.gone
theorem run_few {x0 y0 x y : CurS} {pre : List CE} (h : Run x0 y0 x y (pre.map CE.c)) (okx : x0.ok) (oky : y0.ok) (hal : (chg x0.cont y0.cont).length ≤ 2000000) : pre.length ≤ 2000000 := by
  rw [h.chg okx oky, List.length_append, List.length_map] at hal
  omega
set_option maxRecDepth 100000 in
set_option maxHeartbeats 40000000 in
theorem diffcount_any {F F' : Nat → Prop} {lo X Y N : Nat} {C : Nat → Prop} {W00 : World} {x0 y0 : CurS} {rx0 ry0 : Option Nat} {Ex0 Ey0 : Nat → Prop} {C0 D0 : Nat → Prop} {Wj0 W : World}
    (hS : WalkM F F' lo X Y C (JN N) W00 x0 y0 rx0 ry0 Ex0 Ey0 [] C0 D0 Wj0 W) (okx : x0.ok) (oky : y0.ok) (hal : (chg x0.cont y0.cont).length ≤ 2000000) :
    Calls Tryz.prog 19 #[curP X, curP Y, .func (.func 20) #[] #[.pointer (some ⟨N, 0, none⟩)]] W (CountP F F' lo X Y N x0 y0 C W00) := by
  have HS0 := Lib.hid hS
  have HOKX := Lib.hid okx
  have HOKY := Lib.hid oky
  have HALL := Lib.hid hal
  clear hS okx oky hal
  have eg := enters_of Tryz.func20 (by kernel_rfl) rfl
  refine (callsIn_wide (n := 5)).1 ?_
  refine callsIn_of_wp Tryz.func19 rfl trivial ?_ rfl
  simp only [Tryz.ntmps19, List.size_toArray, List.length_cons, List.length_nil, Nat.reduceAdd, Nat.reduceSub, Array.replicate_succ, Array.replicate_zero, List.push_toArray, List.append_toArray, List.nil_append, List.cons_append]
  gi_wp2_with fail
  refine wpIn_scope9 ?_
  gi_wp2_with fail
  refine wpIn_label ?_
  gi_wp2_with fail
  gi_loopg [] (x0.wt + y0.wt) (fun k wr => ∃ (x y : CurS) (rx ry : Option Nat) (Ex Ey : Nat → Prop) (pre : List CE) (C' D : Nat → Prop) (Wj : World), x.wt + y.wt = k ∧ WalkM F F' lo X Y C (JN N) W00 x y rx ry Ex Ey pre C' D Wj wr ∧ Run x0 y0 x y (pre.map CE.c))
  case atStart => exact ⟨x0, y0, _, _, _, _, [], _, _, _, rfl, HS0.out, Run.start⟩
  case round =>
    obtain ⟨x, y, rx, ry, Ex, Ey, pre, C', D, Wj, rfl, hS, hrun⟩ := hrel
    obtain ⟨px, hzx, fx, lx, bx, hhx, hfx⟩ := head_any hS.cx
    obtain ⟨py, hzy, fy, ly, by_, hhy, hfy⟩ := head_any hS.cy
    obtain ⟨okx, oky⟩ := hrun.ok HOKX.out HOKY.out
    have HS := Lib.hid hS
    have HRUN := Lib.hid hrun
    have HHX := Lib.hid hhx
    have HHY := Lib.hid hhy
    have HOX := Lib.hid okx
    have HOY := Lib.hid oky
    clear hS hrun hhx hhy okx oky
    rcases hfx with ⟨hgx, rfl, rfl⟩ | ⟨e, es1, hex, rfl, rfl, rfl, hf1, hl1, hf2, hl2⟩ | ⟨a, A, hnx, rfl, rfl, hA, hz1, hf1, hl1⟩
    · skip
      have hnnx : x.node = none := by unfold CurS.node; rw [if_pos hgx.1, hgx.2]; rfl
      rcases hfy with ⟨hgy, rfl, rfl⟩ | ⟨f, es2, hey, rfl, rfl, rfl, hf1, hl1, hf2, hl2⟩ | ⟨b, B, hny, rfl, rfl, hB, hz1, hf1, hl1⟩
      · skip
        have hnny : y.node = none := by unfold CurS.node; rw [if_pos hgy.1, hgy.2]; rfl
        gi_wp2_with fail
        refine ⟨trivial, ?_⟩
        refine (callsIn_wide.2 (HHX.out wr (Ext.refl wr))).mono ?_
        rintro e w1 ⟨rfl, hx1⟩
        have hx1' := hx1.alloc #[.pointer none, .int .i64 hzx, .string fx, .string lx] 94
        have hbp := Blk.new w1 94 #[.pointer none, .int .i64 hzx, .string fx, .string lx]
        have HX1 := Lib.hid hx1'
        have HBP := Lib.hid hbp
        clear hx1 hx1' hbp
        gi_wp2_with fail
        refine ⟨trivial, ?_⟩
        refine (callsIn_wide.2 (HHY.out _ HX1.out)).mono ?_
        rintro e w2 ⟨rfl, hx2⟩
        have hbp2 := HBP.out.ext hx2
        have p0 : w2.cell? ⟨w1.heap.size, 0, none⟩ = some (.pointer none) := hbp2.cell 0
        have p1 : w2.cell? ⟨w1.heap.size, 1, none⟩ = some (.int .i64 hzx) := hbp2.cell 1
        have p2 : w2.cell? ⟨w1.heap.size, 2, none⟩ = some (.string fx) := hbp2.cell 2
        have p3 : w2.cell? ⟨w1.heap.size, 3, none⟩ = some (.string lx) := hbp2.cell 3
        have lp := hbp2.lt
        have hx3 := (HX1.out.trans hx2).alloc #[.pointer none, .int .i64 hzy, .string fy, .string ly] 94
        have HS3 := Lib.hid (HS.out.ext hx3)
        have HW3 := Lib.hid hx3
        clear hx2 hx3 hbp2
        gi_wp2_with fail
        have HFIN := Lib.hid (show CountP F F' lo X Y N x0 y0 C W00 (.returned (.tuple #[])) _ from ⟨rfl, x, y, _, _, _, _, pre, _, _, _, HS3.out, HRUN.out, hgx, hgy⟩)
        go_end0
        exact HFIN.out
      · skip
        have hnny : y.node = none := by unfold CurS.node; rw [if_neg (by rw [hey]; simp)]
        have hngy : ¬ y.gone := fun h => by rw [h.1] at hey; cases hey
        have HFY := Lib.hid (hf1.trans hf2.symm)
        have HLY := Lib.hid (hl1.trans hl2.symm)
        have HFF := Lib.hid hf1
        have HLF := Lib.hid hl1
        clear hf1 hl1 hf2 hl2
        gi_wp2_with fail
        refine ⟨trivial, ?_⟩
        refine (callsIn_wide.2 (HHX.out wr (Ext.refl wr))).mono ?_
        rintro e w1 ⟨rfl, hx1⟩
        have hx1' := hx1.alloc #[.pointer none, .int .i64 hzx, .string fx, .string lx] 94
        have hbp := Blk.new w1 94 #[.pointer none, .int .i64 hzx, .string fx, .string lx]
        have HX1 := Lib.hid hx1'
        have HBP := Lib.hid hbp
        clear hx1 hx1' hbp
        gi_wp2_with fail
        refine ⟨trivial, ?_⟩
        refine (callsIn_wide.2 (HHY.out _ HX1.out)).mono ?_
        rintro e w2 ⟨rfl, hx2⟩
        have hbp2 := HBP.out.ext hx2
        have p0 : w2.cell? ⟨w1.heap.size, 0, none⟩ = some (.pointer none) := hbp2.cell 0
        have p1 : w2.cell? ⟨w1.heap.size, 1, none⟩ = some (.int .i64 hzx) := hbp2.cell 1
        have p2 : w2.cell? ⟨w1.heap.size, 2, none⟩ = some (.string fx) := hbp2.cell 2
        have p3 : w2.cell? ⟨w1.heap.size, 3, none⟩ = some (.string lx) := hbp2.cell 3
        have lp := hbp2.lt
        have hx3 := (HX1.out.trans hx2).alloc #[.pointer none, .int .i64 (-1), .string fy, .string ly] 94
        have HS3 := Lib.hid (HS.out.ext hx3)
        have HW3 := Lib.hid hx3
        clear hx2 hx3 hbp2
        gi_wp2_with fail
        refine ⟨trivial, ?_⟩
        refine (callsIn_wide.2 (take_cur HS3.out.cy hey)).mono ?_
        rintro e' w4 ⟨sl, so, rfl, hc4, hst4, hr4, hk4⟩
        have HS4 := Lib.hid (HS3.out.movY (hst4.mono fun i _ hi => .inl hi) hc4 (fun b hb => .inl hb) (fun b hb => .inl hb))
        have HCR4 := Lib.hid (come_cr hr4 hk4)
        have HST := Lib.hid (show Step x y x y.take [comeC f] from .come hey (.inl hgx))
        clear hc4 hst4 hr4 hk4 p0 p1 p2 p3 lp
        gi_wp2_with fail
        refine ⟨trivial, ?_⟩
        refine (callsIn_wide.2 (come_any w4 f sl so)).mono ?_
        rintro e' w5 ⟨rfl, hx5⟩
        have HS5 := Lib.hid (HS4.out.ext hx5)
        have HCR := Lib.hid ((HCR4.out.agree (hx5.agree fun b hb => (HS4.out.regY b hb).2.1)).mono (HS5.out.regY))
        clear hx5
        have hcl := count1_any (comeCE f sl so) HS5.out.jn.1 (run_few HRUN.out HOKX.out HOKY.out HALL.out)
        have HCL := Lib.hid hcl
        clear hcl
        skip
        gi_wp2_with fail
        refine ⟨trivial, ?_⟩
        refine (callsIn_wide.2 HCL.out).mono ?_
        rintro e' w6 ⟨rfl, hst6, hb6⟩
        have HS9 := Lib.hid (HS5.out.cnt (c := comeCE f sl so) hst6 hb6)
        have HRN := Lib.hid (show Run x0 y0 x y.take ((pre ++ [comeCE f sl so]).map CE.c) by rw [List.map_append]; exact HRUN.out.step HST.out)
        clear hst6 hb6
        gi_wp2_with fail
        gi_roundg (x.wt + y.take.wt)
        case rel => exact ⟨x, y.take, _, _, _, _, _, _, _, _, rfl, HS9.out, HRN.out⟩
        case measure => exact HST.out.wt
      · skip
        have hngy : ¬ y.gone := fun h => by have := (y.node_some hny).2.2; rw [h.2] at this; cases this
        have HFY := Lib.hid hf1
        have HLY := Lib.hid hl1
        have HB := Lib.hid hB
        have HZY := Lib.hid hz1
        have hz0y : (-1 : Int) < hzy := by omega
        have hz0y' : ¬ hzy < (-1 : Int) := by omega
        clear hf1 hl1 hB hz1
        have hne : ¬ sameN x y := fun ⟨a', b', h1, h2, h3⟩ => by rw [hnnx] at h1; cases h1
        gi_wp2_with fail
        refine ⟨trivial, ?_⟩
        refine (callsIn_wide.2 (HHX.out wr (Ext.refl wr))).mono ?_
        rintro e w1 ⟨rfl, hx1⟩
        have hx1' := hx1.alloc #[.pointer none, .int .i64 hzx, .string fx, .string lx] 94
        have hbp := Blk.new w1 94 #[.pointer none, .int .i64 hzx, .string fx, .string lx]
        have HX1 := Lib.hid hx1'
        have HBP := Lib.hid hbp
        clear hx1 hx1' hbp
        gi_wp2_with fail
        refine ⟨trivial, ?_⟩
        refine (callsIn_wide.2 (HHY.out _ HX1.out)).mono ?_
        rintro e w2 ⟨rfl, hx2⟩
        have hbp2 := HBP.out.ext hx2
        have p0 : w2.cell? ⟨w1.heap.size, 0, none⟩ = some (.pointer none) := hbp2.cell 0
        have p1 : w2.cell? ⟨w1.heap.size, 1, none⟩ = some (.int .i64 hzx) := hbp2.cell 1
        have p2 : w2.cell? ⟨w1.heap.size, 2, none⟩ = some (.string fx) := hbp2.cell 2
        have p3 : w2.cell? ⟨w1.heap.size, 3, none⟩ = some (.string lx) := hbp2.cell 3
        have lp := hbp2.lt
        have hx3 := (HX1.out.trans hx2).alloc #[.pointer (some B), .int .i64 hzy, .string fy, .string ly] 94
        have HS3 := Lib.hid (HS.out.ext hx3)
        have HW3 := Lib.hid hx3
        clear hx2 hx3 hbp2
        gi_wp2_with fail
        refine ⟨trivial, ?_⟩
        refine (callsIn_wide.2 (open_any HS3.out.cy hny (HOY.out b (List.mem_of_getLast? (y.node_some hny).2.2)))).mono ?_
        rintro e w4 ⟨rfl, E4, r4, hc4, hst4, hE4, hr4⟩
        have HS9 := Lib.hid (HS3.out.movY hst4 hc4 hE4 hr4)
        have HST := Lib.hid (show Step x y x y.open_ [] from .openY hny hne (.inl hgx))
        have HRN := Lib.hid (show Run x0 y0 x y.open_ (pre.map CE.c) by have := HRUN.out.step HST.out; rwa [List.append_nil] at this)
        clear hc4 hst4 hE4 hr4
        clear p0 p1 p2 p3 lp
        gi_wp2_with fail
        gi_roundg (x.wt + y.open_.wt)
        case rel => exact ⟨x, y.open_, _, _, _, _, _, _, _, _, rfl, HS9.out, HRN.out⟩
        case measure => exact HST.out.wt
    · skip
      have hnnx : x.node = none := by unfold CurS.node; rw [if_neg (by rw [hex]; simp)]
      have hngx : ¬ x.gone := fun h => by rw [h.1] at hex; cases hex
      have HFX := Lib.hid (hf1.trans hf2.symm)
      have HLX := Lib.hid (hl1.trans hl2.symm)
      have HFE := Lib.hid hf1
      have HLE := Lib.hid hl1
      clear hf1 hl1 hf2 hl2
      rcases hfy with ⟨hgy, rfl, rfl⟩ | ⟨f, es2, hey, rfl, rfl, rfl, hf1, hl1, hf2, hl2⟩ | ⟨b, B, hny, rfl, rfl, hB, hz1, hf1, hl1⟩
      · skip
        have hnny : y.node = none := by unfold CurS.node; rw [if_pos hgy.1, hgy.2]; rfl
        gi_wp2_with fail
        refine ⟨trivial, ?_⟩
        refine (callsIn_wide.2 (HHX.out wr (Ext.refl wr))).mono ?_
        rintro e w1 ⟨rfl, hx1⟩
        have hx1' := hx1.alloc #[.pointer none, .int .i64 (-1), .string fx, .string lx] 94
        have hbp := Blk.new w1 94 #[.pointer none, .int .i64 (-1), .string fx, .string lx]
        have HX1 := Lib.hid hx1'
        have HBP := Lib.hid hbp
        clear hx1 hx1' hbp
        gi_wp2_with fail
        refine ⟨trivial, ?_⟩
        refine (callsIn_wide.2 (HHY.out _ HX1.out)).mono ?_
        rintro e w2 ⟨rfl, hx2⟩
        have hbp2 := HBP.out.ext hx2
        have p0 : w2.cell? ⟨w1.heap.size, 0, none⟩ = some (.pointer none) := hbp2.cell 0
        have p1 : w2.cell? ⟨w1.heap.size, 1, none⟩ = some (.int .i64 (-1)) := hbp2.cell 1
        have p2 : w2.cell? ⟨w1.heap.size, 2, none⟩ = some (.string fx) := hbp2.cell 2
        have p3 : w2.cell? ⟨w1.heap.size, 3, none⟩ = some (.string lx) := hbp2.cell 3
        have lp := hbp2.lt
        have hx3 := (HX1.out.trans hx2).alloc #[.pointer none, .int .i64 hzy, .string fy, .string ly] 94
        have HS3 := Lib.hid (HS.out.ext hx3)
        have HW3 := Lib.hid hx3
        clear hx2 hx3 hbp2
        gi_wp2_with fail
        refine ⟨trivial, ?_⟩
        refine (callsIn_wide.2 (take_cur HS3.out.cx hex)).mono ?_
        rintro e' w4 ⟨sl, so, rfl, hc4, hst4, hr4, hk4⟩
        have HS4 := Lib.hid (HS3.out.movX (hst4.mono fun i _ hi => .inl hi) hc4 (fun b hb => .inl hb) (fun b hb => .inl hb))
        have HCR4 := Lib.hid (gone_cr hr4 hk4)
        have HST := Lib.hid (show Step x y x.take y [goneC e] from .gone hex (.inl hgy))
        clear hc4 hst4 hr4 hk4 p0 p1 p2 p3 lp
        gi_wp2_with fail
        refine ⟨trivial, ?_⟩
        refine (callsIn_wide.2 (gone_any w4 e sl so)).mono ?_
        rintro e' w5 ⟨rfl, hx5⟩
        have HS5 := Lib.hid (HS4.out.ext hx5)
        have HCR := Lib.hid ((HCR4.out.agree (hx5.agree fun b hb => (HS4.out.regX b hb).2.1)).mono (HS5.out.regX))
        clear hx5
        have hcl := count1_any (goneCE e sl so) HS5.out.jn.1 (run_few HRUN.out HOKX.out HOKY.out HALL.out)
        have HCL := Lib.hid hcl
        clear hcl
        skip
        gi_wp2_with fail
        refine ⟨trivial, ?_⟩
        refine (callsIn_wide.2 HCL.out).mono ?_
        rintro e' w6 ⟨rfl, hst6, hb6⟩
        have HS9 := Lib.hid (HS5.out.cnt (c := goneCE e sl so) hst6 hb6)
        have HRN := Lib.hid (show Run x0 y0 x.take y ((pre ++ [goneCE e sl so]).map CE.c) by rw [List.map_append]; exact HRUN.out.step HST.out)
        clear hst6 hb6
        gi_wp2_with fail
        gi_roundg (x.take.wt + y.wt)
        case rel => exact ⟨x.take, y, _, _, _, _, _, _, _, _, rfl, HS9.out, HRN.out⟩
        case measure => exact HST.out.wt
      · skip
        have hnny : y.node = none := by unfold CurS.node; rw [if_neg (by rw [hey]; simp)]
        have hngy : ¬ y.gone := fun h => by rw [h.1] at hey; cases hey
        have HFY := Lib.hid (hf1.trans hf2.symm)
        have HLY := Lib.hid (hl1.trans hl2.symm)
        have HFF := Lib.hid hf1
        have HLF := Lib.hid hl1
        clear hf1 hl1 hf2 hl2
        cases hlt : klt lx fy with
        | true =>
          have hlt' : Op.bytesLess lx.toList fy.toList = true := hlt
          have HLT := Lib.hid hlt
          gi_wp2_with fail
          refine ⟨trivial, ?_⟩
          refine (callsIn_wide.2 (HHX.out wr (Ext.refl wr))).mono ?_
          rintro e w1 ⟨rfl, hx1⟩
          have hx1' := hx1.alloc #[.pointer none, .int .i64 (-1), .string fx, .string lx] 94
          have hbp := Blk.new w1 94 #[.pointer none, .int .i64 (-1), .string fx, .string lx]
          have HX1 := Lib.hid hx1'
          have HBP := Lib.hid hbp
          clear hx1 hx1' hbp
          gi_wp2_with fail
          refine ⟨trivial, ?_⟩
          refine (callsIn_wide.2 (HHY.out _ HX1.out)).mono ?_
          rintro e w2 ⟨rfl, hx2⟩
          have hbp2 := HBP.out.ext hx2
          have p0 : w2.cell? ⟨w1.heap.size, 0, none⟩ = some (.pointer none) := hbp2.cell 0
          have p1 : w2.cell? ⟨w1.heap.size, 1, none⟩ = some (.int .i64 (-1)) := hbp2.cell 1
          have p2 : w2.cell? ⟨w1.heap.size, 2, none⟩ = some (.string fx) := hbp2.cell 2
          have p3 : w2.cell? ⟨w1.heap.size, 3, none⟩ = some (.string lx) := hbp2.cell 3
          have lp := hbp2.lt
          have hx3 := (HX1.out.trans hx2).alloc #[.pointer none, .int .i64 (-1), .string fy, .string ly] 94
          have HS3 := Lib.hid (HS.out.ext hx3)
          have HW3 := Lib.hid hx3
          clear hx2 hx3 hbp2
          gi_wp2_with fail
          refine ⟨trivial, ?_⟩
          refine (callsIn_wide.2 (take_cur HS3.out.cx hex)).mono ?_
          rintro e' w4 ⟨sl, so, rfl, hc4, hst4, hr4, hk4⟩
          have HS4 := Lib.hid (HS3.out.movX (hst4.mono fun i _ hi => .inl hi) hc4 (fun b hb => .inl hb) (fun b hb => .inl hb))
          have HCR4 := Lib.hid (gone_cr hr4 hk4)
          have HST := Lib.hid (show Step x y x.take y [goneC e] from .gone hex (.inr ⟨hngy, by rw [← HLE.out, ← HFY.out]; exact HLT.out⟩))
          clear hc4 hst4 hr4 hk4 p0 p1 p2 p3 lp
          gi_wp2_with fail
          refine ⟨trivial, ?_⟩
          refine (callsIn_wide.2 (gone_any w4 e sl so)).mono ?_
          rintro e' w5 ⟨rfl, hx5⟩
          have HS5 := Lib.hid (HS4.out.ext hx5)
          have HCR := Lib.hid ((HCR4.out.agree (hx5.agree fun b hb => (HS4.out.regX b hb).2.1)).mono (HS5.out.regX))
          clear hx5
          have hcl := count1_any (goneCE e sl so) HS5.out.jn.1 (run_few HRUN.out HOKX.out HOKY.out HALL.out)
          have HCL := Lib.hid hcl
          clear hcl
          skip
          gi_wp2_with fail
          refine ⟨trivial, ?_⟩
          refine (callsIn_wide.2 HCL.out).mono ?_
          rintro e' w6 ⟨rfl, hst6, hb6⟩
          have HS9 := Lib.hid (HS5.out.cnt (c := goneCE e sl so) hst6 hb6)
          have HRN := Lib.hid (show Run x0 y0 x.take y ((pre ++ [goneCE e sl so]).map CE.c) by rw [List.map_append]; exact HRUN.out.step HST.out)
          clear hst6 hb6
          gi_wp2_with fail
          gi_roundg (x.take.wt + y.wt)
          case rel => exact ⟨x.take, y, _, _, _, _, _, _, _, _, rfl, HS9.out, HRN.out⟩
          case measure => exact HST.out.wt
        | false =>
          have hlt' : Op.bytesLess lx.toList fy.toList = false := hlt
          have HLT := Lib.hid hlt
          cases hgt : klt ly fx with
          | true =>
            have hgt' : Op.bytesLess ly.toList fx.toList = true := hgt
            have HGT := Lib.hid hgt
            gi_wp2_with fail
            refine ⟨trivial, ?_⟩
            refine (callsIn_wide.2 (HHX.out wr (Ext.refl wr))).mono ?_
            rintro e w1 ⟨rfl, hx1⟩
            have hx1' := hx1.alloc #[.pointer none, .int .i64 (-1), .string fx, .string lx] 94
            have hbp := Blk.new w1 94 #[.pointer none, .int .i64 (-1), .string fx, .string lx]
            have HX1 := Lib.hid hx1'
            have HBP := Lib.hid hbp
            clear hx1 hx1' hbp
            gi_wp2_with fail
            refine ⟨trivial, ?_⟩
            refine (callsIn_wide.2 (HHY.out _ HX1.out)).mono ?_
            rintro e w2 ⟨rfl, hx2⟩
            have hbp2 := HBP.out.ext hx2
            have p0 : w2.cell? ⟨w1.heap.size, 0, none⟩ = some (.pointer none) := hbp2.cell 0
            have p1 : w2.cell? ⟨w1.heap.size, 1, none⟩ = some (.int .i64 (-1)) := hbp2.cell 1
            have p2 : w2.cell? ⟨w1.heap.size, 2, none⟩ = some (.string fx) := hbp2.cell 2
            have p3 : w2.cell? ⟨w1.heap.size, 3, none⟩ = some (.string lx) := hbp2.cell 3
            have lp := hbp2.lt
            have hx3 := (HX1.out.trans hx2).alloc #[.pointer none, .int .i64 (-1), .string fy, .string ly] 94
            have HS3 := Lib.hid (HS.out.ext hx3)
            have HW3 := Lib.hid hx3
            clear hx2 hx3 hbp2
            gi_wp2_with fail
            refine ⟨trivial, ?_⟩
            refine (callsIn_wide.2 (take_cur HS3.out.cy hey)).mono ?_
            rintro e' w4 ⟨sl, so, rfl, hc4, hst4, hr4, hk4⟩
            have HS4 := Lib.hid (HS3.out.movY (hst4.mono fun i _ hi => .inl hi) hc4 (fun b hb => .inl hb) (fun b hb => .inl hb))
            have HCR4 := Lib.hid (come_cr hr4 hk4)
            have HST := Lib.hid (show Step x y x y.take [comeC f] from .come hey (.inr ⟨hngx, by rw [← HLF.out, ← HFX.out]; exact HGT.out⟩))
            clear hc4 hst4 hr4 hk4 p0 p1 p2 p3 lp
            gi_wp2_with fail
            refine ⟨trivial, ?_⟩
            refine (callsIn_wide.2 (come_any w4 f sl so)).mono ?_
            rintro e' w5 ⟨rfl, hx5⟩
            have HS5 := Lib.hid (HS4.out.ext hx5)
            have HCR := Lib.hid ((HCR4.out.agree (hx5.agree fun b hb => (HS4.out.regY b hb).2.1)).mono (HS5.out.regY))
            clear hx5
            have hcl := count1_any (comeCE f sl so) HS5.out.jn.1 (run_few HRUN.out HOKX.out HOKY.out HALL.out)
            have HCL := Lib.hid hcl
            clear hcl
            skip
            gi_wp2_with fail
            refine ⟨trivial, ?_⟩
            refine (callsIn_wide.2 HCL.out).mono ?_
            rintro e' w6 ⟨rfl, hst6, hb6⟩
            have HS9 := Lib.hid (HS5.out.cnt (c := comeCE f sl so) hst6 hb6)
            have HRN := Lib.hid (show Run x0 y0 x y.take ((pre ++ [comeCE f sl so]).map CE.c) by rw [List.map_append]; exact HRUN.out.step HST.out)
            clear hst6 hb6
            gi_wp2_with fail
            gi_roundg (x.wt + y.take.wt)
            case rel => exact ⟨x, y.take, _, _, _, _, _, _, _, _, rfl, HS9.out, HRN.out⟩
            case measure => exact HST.out.wt
          | false =>
            have hgt' : Op.bytesLess ly.toList fx.toList = false := hgt
            have HGT := Lib.hid hgt
            gi_wp2_with fail
            refine ⟨trivial, ?_⟩
            refine (callsIn_wide.2 (HHX.out wr (Ext.refl wr))).mono ?_
            rintro e w1 ⟨rfl, hx1⟩
            have hx1' := hx1.alloc #[.pointer none, .int .i64 (-1), .string fx, .string lx] 94
            have hbp := Blk.new w1 94 #[.pointer none, .int .i64 (-1), .string fx, .string lx]
            have HX1 := Lib.hid hx1'
            have HBP := Lib.hid hbp
            clear hx1 hx1' hbp
            gi_wp2_with fail
            refine ⟨trivial, ?_⟩
            refine (callsIn_wide.2 (HHY.out _ HX1.out)).mono ?_
            rintro e w2 ⟨rfl, hx2⟩
            have hbp2 := HBP.out.ext hx2
            have p0 : w2.cell? ⟨w1.heap.size, 0, none⟩ = some (.pointer none) := hbp2.cell 0
            have p1 : w2.cell? ⟨w1.heap.size, 1, none⟩ = some (.int .i64 (-1)) := hbp2.cell 1
            have p2 : w2.cell? ⟨w1.heap.size, 2, none⟩ = some (.string fx) := hbp2.cell 2
            have p3 : w2.cell? ⟨w1.heap.size, 3, none⟩ = some (.string lx) := hbp2.cell 3
            have lp := hbp2.lt
            have hx3 := (HX1.out.trans hx2).alloc #[.pointer none, .int .i64 (-1), .string fy, .string ly] 94
            have HS3 := Lib.hid (HS.out.ext hx3)
            have HW3 := Lib.hid hx3
            clear hx2 hx3 hbp2
            gi_wp2_with fail
            have hkk : e.1 = f.1 := klt_total (by rw [← HLE.out, ← HFF.out]; exact HLT.out) (by rw [← HLF.out, ← HFE.out]; exact HGT.out)
            have HKK := Lib.hid hkk
            clear hkk
            refine ⟨trivial, ?_⟩
            refine (callsIn_wide.2 (take_cur HS3.out.cx hex)).mono ?_
            rintro e' w4 ⟨sl, so, rfl, hc4, hst4, hr4, hk4⟩
            have HS4 := Lib.hid (HS3.out.movX (hst4.mono fun i _ hi => .inl hi) hc4 (fun b hb => .inl hb) (fun b hb => .inl hb))
            have HRV4 := Lib.hid hr4
            have HKM4 := Lib.hid hk4
            clear hc4 hst4 hr4 hk4 p0 p1 p2 p3 lp
            gi_wp2_with fail
            refine ⟨trivial, ?_⟩
            refine (callsIn_wide.2 (take_cur HS4.out.cy hey)).mono ?_
            rintro e' w5 ⟨sl', so', rfl, hc5, hst5, hr5, hk5⟩
            have hrv5 := HRV4.out.agree (hst5.agree.mono fun b hb => ⟨(HS4.out.regX b hb).2.1, fun e => (HS4.out.regX b hb).2.2 (.inl (.inr (.inl e)))⟩)
            have HS5' := Lib.hid (HS4.out.movY (hst5.mono fun i _ hi => .inl hi) hc5 (fun b hb => .inl hb) (fun b hb => .inl hb))
            have HRV5 := Lib.hid hrv5
            have HRV5' := Lib.hid hr5
            have HST := Lib.hid (show Step x y x.take y.take (becC e f) from .both hex hey HKK.out)
            clear hc5 hst5 hr5 hk5 hrv5
            gi_wp2_with fail
            refine ⟨trivial, ?_⟩
            refine (callsIn_wide.2 (became_any (e := e) (f := f) (HRV5.out.mono fun b hb => (HS5'.out.regX b hb).2.1) (HRV5'.out.mono fun b hb => (HS5'.out.regY b hb).2.1))).mono ?_
            rintro e' w7 ⟨rfl, hx7⟩
            by_cases hc : cmpV e.2 f.2 = 0
            · rw [if_pos hc, decide_eq_false (by simp [hc])]
              have hx8 := hx7.alloc #[.string ByteArray.empty, .bool false, .int .i64 0, .bool false, .int .i64 0, .string ByteArray.empty, .slice none 0 0, .slice none 0 0, .bool false, .int .i64 0, .bool false, .int .i64 0, .string ByteArray.empty, .slice none 0 0, .slice none 0 0] 56
              have HS9 := Lib.hid (HS5'.out.ext hx8)
              have HRN := Lib.hid (show Run x0 y0 x.take y.take (pre.map CE.c) by have := HRUN.out.step HST.out; rwa [becC, if_pos hc, List.append_nil] at this)
              rw [show zeroCE.agg = .agg #[.string ByteArray.empty, .bool false, .int .i64 0, .bool false, .int .i64 0, .string ByteArray.empty, .slice none 0 0, .slice none 0 0, .bool false, .int .i64 0, .bool false, .int .i64 0, .string ByteArray.empty, .slice none 0 0, .slice none 0 0] from rfl]
              clear hx7 hx8 hc
              gi_wp2_with fail
              refine ⟨fun _ h => absurd h (by simp), ?_⟩
              gi_wp2_with fail
              gi_roundg (x.take.wt + y.take.wt)
              case rel => exact ⟨x.take, y.take, _, _, _, _, _, _, _, _, rfl, HS9.out, HRN.out⟩
              case measure => exact HST.out.wt
            · rw [if_neg hc, decide_eq_true hc]
              have hx8 := hx7.alloc #[.string e.1, .bool true, .int .i64 e.2.kind, .bool e.2.b, .int .i64 e.2.i, .string e.2.t, .slice sl.a e.2.l.length sl.c, .slice so.a e.2.ok.length so.c, .bool true, .int .i64 f.2.kind, .bool f.2.b, .int .i64 f.2.i, .string f.2.t, .slice sl'.a f.2.l.length sl'.c, .slice so'.a f.2.ok.length so'.c] 56
              have HS5 := Lib.hid (HS5'.out.ext hx8)
              have HST' := Lib.hid (show Step x y x.take y.take [⟨e.1, true, e.2, true, f.2⟩] by have := HST.out; rwa [becC, if_neg hc] at this)
              have HCR := Lib.hid (show CR _ (fun b => lo ≤ b ∧ b < _ ∧ ¬ (Own X Y rx ry b ∨ C' b)) (becCE e f sl so sl' so') from ⟨(HRV5.out.agree (hx8.agree fun b hb => (HS5'.out.regX b hb).2.1)).mono HS5.out.regX, (HRV5'.out.agree (hx8.agree fun b hb => (HS5'.out.regY b hb).2.1)).mono HS5.out.regY, HKM4.out⟩)
              clear HST
              have HST := HST'
              rw [show (becCE e f sl so sl' so').agg = .agg #[.string e.1, .bool true, .int .i64 e.2.kind, .bool e.2.b, .int .i64 e.2.i, .string e.2.t, .slice sl.a e.2.l.length sl.c, .slice so.a e.2.ok.length so.c, .bool true, .int .i64 f.2.kind, .bool f.2.b, .int .i64 f.2.i, .string f.2.t, .slice sl'.a f.2.l.length sl'.c, .slice so'.a f.2.ok.length so'.c] from rfl]
              clear hx7 hx8 hc HST'
              have hcl := count1_any (becCE e f sl so sl' so') HS5.out.jn.1 (run_few HRUN.out HOKX.out HOKY.out HALL.out)
              have HCL := Lib.hid hcl
              clear hcl
              skip
              gi_wp2_with fail
              refine ⟨trivial, ?_⟩
              refine (callsIn_wide.2 HCL.out).mono ?_
              rintro e' w6 ⟨rfl, hst6, hb6⟩
              have HS9 := Lib.hid (HS5.out.cnt (c := becCE e f sl so sl' so') hst6 hb6)
              have HRN := Lib.hid (show Run x0 y0 x.take y.take ((pre ++ [becCE e f sl so sl' so']).map CE.c) by rw [List.map_append]; exact HRUN.out.step HST.out)
              clear hst6 hb6
              gi_wp2_with fail
              gi_roundg (x.take.wt + y.take.wt)
              case rel => exact ⟨x.take, y.take, _, _, _, _, _, _, _, _, rfl, HS9.out, HRN.out⟩
              case measure => exact HST.out.wt
      · skip
        have hngy : ¬ y.gone := fun h => by have := (y.node_some hny).2.2; rw [h.2] at this; cases this
        have HFY := Lib.hid hf1
        have HLY := Lib.hid hl1
        have HB := Lib.hid hB
        have HZY := Lib.hid hz1
        have hz0y : (-1 : Int) < hzy := by omega
        have hz0y' : ¬ hzy < (-1 : Int) := by omega
        clear hf1 hl1 hB hz1
        have hne : ¬ sameN x y := fun ⟨a', b', h1, h2, h3⟩ => by rw [hnnx] at h1; cases h1
        cases hlt : klt lx fy with
        | true =>
          have hlt' : Op.bytesLess lx.toList fy.toList = true := hlt
          have HLT := Lib.hid hlt
          gi_wp2_with fail
          refine ⟨trivial, ?_⟩
          refine (callsIn_wide.2 (HHX.out wr (Ext.refl wr))).mono ?_
          rintro e w1 ⟨rfl, hx1⟩
          have hx1' := hx1.alloc #[.pointer none, .int .i64 (-1), .string fx, .string lx] 94
          have hbp := Blk.new w1 94 #[.pointer none, .int .i64 (-1), .string fx, .string lx]
          have HX1 := Lib.hid hx1'
          have HBP := Lib.hid hbp
          clear hx1 hx1' hbp
          gi_wp2_with fail
          refine ⟨trivial, ?_⟩
          refine (callsIn_wide.2 (HHY.out _ HX1.out)).mono ?_
          rintro e w2 ⟨rfl, hx2⟩
          have hbp2 := HBP.out.ext hx2
          have p0 : w2.cell? ⟨w1.heap.size, 0, none⟩ = some (.pointer none) := hbp2.cell 0
          have p1 : w2.cell? ⟨w1.heap.size, 1, none⟩ = some (.int .i64 (-1)) := hbp2.cell 1
          have p2 : w2.cell? ⟨w1.heap.size, 2, none⟩ = some (.string fx) := hbp2.cell 2
          have p3 : w2.cell? ⟨w1.heap.size, 3, none⟩ = some (.string lx) := hbp2.cell 3
          have lp := hbp2.lt
          have hx3 := (HX1.out.trans hx2).alloc #[.pointer (some B), .int .i64 hzy, .string fy, .string ly] 94
          have HS3 := Lib.hid (HS.out.ext hx3)
          have HW3 := Lib.hid hx3
          clear hx2 hx3 hbp2
          gi_wp2_with fail
          refine ⟨trivial, ?_⟩
          refine (callsIn_wide.2 (take_cur HS3.out.cx hex)).mono ?_
          rintro e' w4 ⟨sl, so, rfl, hc4, hst4, hr4, hk4⟩
          have HS4 := Lib.hid (HS3.out.movX (hst4.mono fun i _ hi => .inl hi) hc4 (fun b hb => .inl hb) (fun b hb => .inl hb))
          have HCR4 := Lib.hid (gone_cr hr4 hk4)
          have HST := Lib.hid (show Step x y x.take y [goneC e] from .gone hex (.inr ⟨hngy, by rw [← HLE.out, ← HFY.out]; exact HLT.out⟩))
          clear hc4 hst4 hr4 hk4 p0 p1 p2 p3 lp
          gi_wp2_with fail
          refine ⟨trivial, ?_⟩
          refine (callsIn_wide.2 (gone_any w4 e sl so)).mono ?_
          rintro e' w5 ⟨rfl, hx5⟩
          have HS5 := Lib.hid (HS4.out.ext hx5)
          have HCR := Lib.hid ((HCR4.out.agree (hx5.agree fun b hb => (HS4.out.regX b hb).2.1)).mono (HS5.out.regX))
          clear hx5
          have hcl := count1_any (goneCE e sl so) HS5.out.jn.1 (run_few HRUN.out HOKX.out HOKY.out HALL.out)
          have HCL := Lib.hid hcl
          clear hcl
          skip
          gi_wp2_with fail
          refine ⟨trivial, ?_⟩
          refine (callsIn_wide.2 HCL.out).mono ?_
          rintro e' w6 ⟨rfl, hst6, hb6⟩
          have HS9 := Lib.hid (HS5.out.cnt (c := goneCE e sl so) hst6 hb6)
          have HRN := Lib.hid (show Run x0 y0 x.take y ((pre ++ [goneCE e sl so]).map CE.c) by rw [List.map_append]; exact HRUN.out.step HST.out)
          clear hst6 hb6
          gi_wp2_with fail
          gi_roundg (x.take.wt + y.wt)
          case rel => exact ⟨x.take, y, _, _, _, _, _, _, _, _, rfl, HS9.out, HRN.out⟩
          case measure => exact HST.out.wt
        | false =>
          have hlt' : Op.bytesLess lx.toList fy.toList = false := hlt
          have HLT := Lib.hid hlt
          cases hgt : klt ly fx with
          | true =>
            have hgt' : Op.bytesLess ly.toList fx.toList = true := hgt
            have HGT := Lib.hid hgt
            gi_wp2_with fail
            refine ⟨trivial, ?_⟩
            refine (callsIn_wide.2 (HHX.out wr (Ext.refl wr))).mono ?_
            rintro e w1 ⟨rfl, hx1⟩
            have hx1' := hx1.alloc #[.pointer none, .int .i64 (-1), .string fx, .string lx] 94
            have hbp := Blk.new w1 94 #[.pointer none, .int .i64 (-1), .string fx, .string lx]
            have HX1 := Lib.hid hx1'
            have HBP := Lib.hid hbp
            clear hx1 hx1' hbp
            gi_wp2_with fail
            refine ⟨trivial, ?_⟩
            refine (callsIn_wide.2 (HHY.out _ HX1.out)).mono ?_
            rintro e w2 ⟨rfl, hx2⟩
            have hbp2 := HBP.out.ext hx2
            have p0 : w2.cell? ⟨w1.heap.size, 0, none⟩ = some (.pointer none) := hbp2.cell 0
            have p1 : w2.cell? ⟨w1.heap.size, 1, none⟩ = some (.int .i64 (-1)) := hbp2.cell 1
            have p2 : w2.cell? ⟨w1.heap.size, 2, none⟩ = some (.string fx) := hbp2.cell 2
            have p3 : w2.cell? ⟨w1.heap.size, 3, none⟩ = some (.string lx) := hbp2.cell 3
            have lp := hbp2.lt
            have hx3 := (HX1.out.trans hx2).alloc #[.pointer (some B), .int .i64 hzy, .string fy, .string ly] 94
            have HS3 := Lib.hid (HS.out.ext hx3)
            have HW3 := Lib.hid hx3
            clear hx2 hx3 hbp2
            gi_wp2_with fail
            refine ⟨trivial, ?_⟩
            refine (callsIn_wide.2 (open_any HS3.out.cy hny (HOY.out b (List.mem_of_getLast? (y.node_some hny).2.2)))).mono ?_
            rintro e w4 ⟨rfl, E4, r4, hc4, hst4, hE4, hr4⟩
            have HS9 := Lib.hid (HS3.out.movY hst4 hc4 hE4 hr4)
            have HST := Lib.hid (show Step x y x y.open_ [] from .openY hny hne (.inr (.inl (by rw [← HLY.out, ← HFX.out]; exact HGT.out))))
            have HRN := Lib.hid (show Run x0 y0 x y.open_ (pre.map CE.c) by have := HRUN.out.step HST.out; rwa [List.append_nil] at this)
            clear hc4 hst4 hE4 hr4
            clear p0 p1 p2 p3 lp
            gi_wp2_with fail
            gi_roundg (x.wt + y.open_.wt)
            case rel => exact ⟨x, y.open_, _, _, _, _, _, _, _, _, rfl, HS9.out, HRN.out⟩
            case measure => exact HST.out.wt
          | false =>
            have hgt' : Op.bytesLess ly.toList fx.toList = false := hgt
            have HGT := Lib.hid hgt
            gi_wp2_with fail
            refine ⟨trivial, ?_⟩
            refine (callsIn_wide.2 (HHX.out wr (Ext.refl wr))).mono ?_
            rintro e w1 ⟨rfl, hx1⟩
            have hx1' := hx1.alloc #[.pointer none, .int .i64 (-1), .string fx, .string lx] 94
            have hbp := Blk.new w1 94 #[.pointer none, .int .i64 (-1), .string fx, .string lx]
            have HX1 := Lib.hid hx1'
            have HBP := Lib.hid hbp
            clear hx1 hx1' hbp
            gi_wp2_with fail
            refine ⟨trivial, ?_⟩
            refine (callsIn_wide.2 (HHY.out _ HX1.out)).mono ?_
            rintro e w2 ⟨rfl, hx2⟩
            have hbp2 := HBP.out.ext hx2
            have p0 : w2.cell? ⟨w1.heap.size, 0, none⟩ = some (.pointer none) := hbp2.cell 0
            have p1 : w2.cell? ⟨w1.heap.size, 1, none⟩ = some (.int .i64 (-1)) := hbp2.cell 1
            have p2 : w2.cell? ⟨w1.heap.size, 2, none⟩ = some (.string fx) := hbp2.cell 2
            have p3 : w2.cell? ⟨w1.heap.size, 3, none⟩ = some (.string lx) := hbp2.cell 3
            have lp := hbp2.lt
            have hx3 := (HX1.out.trans hx2).alloc #[.pointer (some B), .int .i64 hzy, .string fy, .string ly] 94
            have HS3 := Lib.hid (HS.out.ext hx3)
            have HW3 := Lib.hid hx3
            clear hx2 hx3 hbp2
            gi_wp2_with fail
            refine ⟨trivial, ?_⟩
            refine (callsIn_wide.2 (open_any HS3.out.cy hny (HOY.out b (List.mem_of_getLast? (y.node_some hny).2.2)))).mono ?_
            rintro e w4 ⟨rfl, E4, r4, hc4, hst4, hE4, hr4⟩
            have HS9 := Lib.hid (HS3.out.movY hst4 hc4 hE4 hr4)
            have HST := Lib.hid (show Step x y x y.open_ [] from .openY hny hne (.inr (.inr ⟨by rw [← HLX.out, ← HFY.out]; exact HLT.out, by rw [← HLY.out, ← HFX.out]; exact HGT.out, hngx, by rw [x.height_entry hex]; omega⟩)))
            have HRN := Lib.hid (show Run x0 y0 x y.open_ (pre.map CE.c) by have := HRUN.out.step HST.out; rwa [List.append_nil] at this)
            clear hc4 hst4 hE4 hr4
            clear p0 p1 p2 p3 lp
            gi_wp2_with fail
            gi_roundg (x.wt + y.open_.wt)
            case rel => exact ⟨x, y.open_, _, _, _, _, _, _, _, _, rfl, HS9.out, HRN.out⟩
            case measure => exact HST.out.wt
    · skip
      have hngx : ¬ x.gone := fun h => by have := (x.node_some hnx).2.2; rw [h.2] at this; cases this
      have HFX := Lib.hid hf1
      have HLX := Lib.hid hl1
      have HA := Lib.hid hA
      have HZX := Lib.hid hz1
      have hz0x : (-1 : Int) < hzx := by omega
      have hz0x' : ¬ hzx < (-1 : Int) := by omega
      clear hf1 hl1 hA hz1
      rcases hfy with ⟨hgy, rfl, rfl⟩ | ⟨f, es2, hey, rfl, rfl, rfl, hf1, hl1, hf2, hl2⟩ | ⟨b, B, hny, rfl, rfl, hB, hz1, hf1, hl1⟩
      · skip
        have hnny : y.node = none := by unfold CurS.node; rw [if_pos hgy.1, hgy.2]; rfl
        have hne : ¬ sameN x y := fun ⟨a', b', h1, h2, h3⟩ => by rw [hnny] at h2; cases h2
        gi_wp2_with fail
        refine ⟨trivial, ?_⟩
        refine (callsIn_wide.2 (HHX.out wr (Ext.refl wr))).mono ?_
        rintro e w1 ⟨rfl, hx1⟩
        have hx1' := hx1.alloc #[.pointer (some A), .int .i64 hzx, .string fx, .string lx] 94
        have hbp := Blk.new w1 94 #[.pointer (some A), .int .i64 hzx, .string fx, .string lx]
        have HX1 := Lib.hid hx1'
        have HBP := Lib.hid hbp
        clear hx1 hx1' hbp
        gi_wp2_with fail
        refine ⟨trivial, ?_⟩
        refine (callsIn_wide.2 (HHY.out _ HX1.out)).mono ?_
        rintro e w2 ⟨rfl, hx2⟩
        have hbp2 := HBP.out.ext hx2
        have p0 : w2.cell? ⟨w1.heap.size, 0, none⟩ = some (.pointer (some A)) := hbp2.cell 0
        have p1 : w2.cell? ⟨w1.heap.size, 1, none⟩ = some (.int .i64 hzx) := hbp2.cell 1
        have p2 : w2.cell? ⟨w1.heap.size, 2, none⟩ = some (.string fx) := hbp2.cell 2
        have p3 : w2.cell? ⟨w1.heap.size, 3, none⟩ = some (.string lx) := hbp2.cell 3
        have lp := hbp2.lt
        have hx3 := (HX1.out.trans hx2).alloc #[.pointer none, .int .i64 hzy, .string fy, .string ly] 94
        have HS3 := Lib.hid (HS.out.ext hx3)
        have HW3 := Lib.hid hx3
        clear hx2 hx3 hbp2
        gi_wp2_with fail
        refine ⟨trivial, ?_⟩
        refine (callsIn_wide.2 (open_any HS3.out.cx hnx (HOX.out a (List.mem_of_getLast? (x.node_some hnx).2.2)))).mono ?_
        rintro e w4 ⟨rfl, E4, r4, hc4, hst4, hE4, hr4⟩
        have HS9 := Lib.hid (HS3.out.movX hst4 hc4 hE4 hr4)
        have HST := Lib.hid (show Step x y x.open_ y [] from .openX hnx hne (.inl hgy))
        have HRN := Lib.hid (show Run x0 y0 x.open_ y (pre.map CE.c) by have := HRUN.out.step HST.out; rwa [List.append_nil] at this)
        clear hc4 hst4 hE4 hr4
        clear p0 p1 p2 p3 lp
        gi_wp2_with fail
        gi_roundg (x.open_.wt + y.wt)
        case rel => exact ⟨x.open_, y, _, _, _, _, _, _, _, _, rfl, HS9.out, HRN.out⟩
        case measure => exact HST.out.wt
      · skip
        have hnny : y.node = none := by unfold CurS.node; rw [if_neg (by rw [hey]; simp)]
        have hngy : ¬ y.gone := fun h => by rw [h.1] at hey; cases hey
        have HFY := Lib.hid (hf1.trans hf2.symm)
        have HLY := Lib.hid (hl1.trans hl2.symm)
        have HFF := Lib.hid hf1
        have HLF := Lib.hid hl1
        clear hf1 hl1 hf2 hl2
        have hne : ¬ sameN x y := fun ⟨a', b', h1, h2, h3⟩ => by rw [hnny] at h2; cases h2
        cases hlt : klt lx fy with
        | true =>
          have hlt' : Op.bytesLess lx.toList fy.toList = true := hlt
          have HLT := Lib.hid hlt
          gi_wp2_with fail
          refine ⟨trivial, ?_⟩
          refine (callsIn_wide.2 (HHX.out wr (Ext.refl wr))).mono ?_
          rintro e w1 ⟨rfl, hx1⟩
          have hx1' := hx1.alloc #[.pointer (some A), .int .i64 hzx, .string fx, .string lx] 94
          have hbp := Blk.new w1 94 #[.pointer (some A), .int .i64 hzx, .string fx, .string lx]
          have HX1 := Lib.hid hx1'
          have HBP := Lib.hid hbp
          clear hx1 hx1' hbp
          gi_wp2_with fail
          refine ⟨trivial, ?_⟩
          refine (callsIn_wide.2 (HHY.out _ HX1.out)).mono ?_
          rintro e w2 ⟨rfl, hx2⟩
          have hbp2 := HBP.out.ext hx2
          have p0 : w2.cell? ⟨w1.heap.size, 0, none⟩ = some (.pointer (some A)) := hbp2.cell 0
          have p1 : w2.cell? ⟨w1.heap.size, 1, none⟩ = some (.int .i64 hzx) := hbp2.cell 1
          have p2 : w2.cell? ⟨w1.heap.size, 2, none⟩ = some (.string fx) := hbp2.cell 2
          have p3 : w2.cell? ⟨w1.heap.size, 3, none⟩ = some (.string lx) := hbp2.cell 3
          have lp := hbp2.lt
          have hx3 := (HX1.out.trans hx2).alloc #[.pointer none, .int .i64 (-1), .string fy, .string ly] 94
          have HS3 := Lib.hid (HS.out.ext hx3)
          have HW3 := Lib.hid hx3
          clear hx2 hx3 hbp2
          gi_wp2_with fail
          refine ⟨trivial, ?_⟩
          refine (callsIn_wide.2 (open_any HS3.out.cx hnx (HOX.out a (List.mem_of_getLast? (x.node_some hnx).2.2)))).mono ?_
          rintro e w4 ⟨rfl, E4, r4, hc4, hst4, hE4, hr4⟩
          have HS9 := Lib.hid (HS3.out.movX hst4 hc4 hE4 hr4)
          have HST := Lib.hid (show Step x y x.open_ y [] from .openX hnx hne (.inr (.inl (by rw [← HLX.out, ← HFY.out]; exact HLT.out))))
          have HRN := Lib.hid (show Run x0 y0 x.open_ y (pre.map CE.c) by have := HRUN.out.step HST.out; rwa [List.append_nil] at this)
          clear hc4 hst4 hE4 hr4
          clear p0 p1 p2 p3 lp
          gi_wp2_with fail
          gi_roundg (x.open_.wt + y.wt)
          case rel => exact ⟨x.open_, y, _, _, _, _, _, _, _, _, rfl, HS9.out, HRN.out⟩
          case measure => exact HST.out.wt
        | false =>
          have hlt' : Op.bytesLess lx.toList fy.toList = false := hlt
          have HLT := Lib.hid hlt
          cases hgt : klt ly fx with
          | true =>
            have hgt' : Op.bytesLess ly.toList fx.toList = true := hgt
            have HGT := Lib.hid hgt
            gi_wp2_with fail
            refine ⟨trivial, ?_⟩
            refine (callsIn_wide.2 (HHX.out wr (Ext.refl wr))).mono ?_
            rintro e w1 ⟨rfl, hx1⟩
            have hx1' := hx1.alloc #[.pointer (some A), .int .i64 hzx, .string fx, .string lx] 94
            have hbp := Blk.new w1 94 #[.pointer (some A), .int .i64 hzx, .string fx, .string lx]
            have HX1 := Lib.hid hx1'
            have HBP := Lib.hid hbp
            clear hx1 hx1' hbp
            gi_wp2_with fail
            refine ⟨trivial, ?_⟩
            refine (callsIn_wide.2 (HHY.out _ HX1.out)).mono ?_
            rintro e w2 ⟨rfl, hx2⟩
            have hbp2 := HBP.out.ext hx2
            have p0 : w2.cell? ⟨w1.heap.size, 0, none⟩ = some (.pointer (some A)) := hbp2.cell 0
            have p1 : w2.cell? ⟨w1.heap.size, 1, none⟩ = some (.int .i64 hzx) := hbp2.cell 1
            have p2 : w2.cell? ⟨w1.heap.size, 2, none⟩ = some (.string fx) := hbp2.cell 2
            have p3 : w2.cell? ⟨w1.heap.size, 3, none⟩ = some (.string lx) := hbp2.cell 3
            have lp := hbp2.lt
            have hx3 := (HX1.out.trans hx2).alloc #[.pointer none, .int .i64 (-1), .string fy, .string ly] 94
            have HS3 := Lib.hid (HS.out.ext hx3)
            have HW3 := Lib.hid hx3
            clear hx2 hx3 hbp2
            gi_wp2_with fail
            refine ⟨trivial, ?_⟩
            refine (callsIn_wide.2 (take_cur HS3.out.cy hey)).mono ?_
            rintro e' w4 ⟨sl, so, rfl, hc4, hst4, hr4, hk4⟩
            have HS4 := Lib.hid (HS3.out.movY (hst4.mono fun i _ hi => .inl hi) hc4 (fun b hb => .inl hb) (fun b hb => .inl hb))
            have HCR4 := Lib.hid (come_cr hr4 hk4)
            have HST := Lib.hid (show Step x y x y.take [comeC f] from .come hey (.inr ⟨hngx, by rw [← HLF.out, ← HFX.out]; exact HGT.out⟩))
            clear hc4 hst4 hr4 hk4 p0 p1 p2 p3 lp
            gi_wp2_with fail
            refine ⟨trivial, ?_⟩
            refine (callsIn_wide.2 (come_any w4 f sl so)).mono ?_
            rintro e' w5 ⟨rfl, hx5⟩
            have HS5 := Lib.hid (HS4.out.ext hx5)
            have HCR := Lib.hid ((HCR4.out.agree (hx5.agree fun b hb => (HS4.out.regY b hb).2.1)).mono (HS5.out.regY))
            clear hx5
            have hcl := count1_any (comeCE f sl so) HS5.out.jn.1 (run_few HRUN.out HOKX.out HOKY.out HALL.out)
            have HCL := Lib.hid hcl
            clear hcl
            skip
            gi_wp2_with fail
            refine ⟨trivial, ?_⟩
            refine (callsIn_wide.2 HCL.out).mono ?_
            rintro e' w6 ⟨rfl, hst6, hb6⟩
            have HS9 := Lib.hid (HS5.out.cnt (c := comeCE f sl so) hst6 hb6)
            have HRN := Lib.hid (show Run x0 y0 x y.take ((pre ++ [comeCE f sl so]).map CE.c) by rw [List.map_append]; exact HRUN.out.step HST.out)
            clear hst6 hb6
            gi_wp2_with fail
            gi_roundg (x.wt + y.take.wt)
            case rel => exact ⟨x, y.take, _, _, _, _, _, _, _, _, rfl, HS9.out, HRN.out⟩
            case measure => exact HST.out.wt
          | false =>
            have hgt' : Op.bytesLess ly.toList fx.toList = false := hgt
            have HGT := Lib.hid hgt
            gi_wp2_with fail
            refine ⟨trivial, ?_⟩
            refine (callsIn_wide.2 (HHX.out wr (Ext.refl wr))).mono ?_
            rintro e w1 ⟨rfl, hx1⟩
            have hx1' := hx1.alloc #[.pointer (some A), .int .i64 hzx, .string fx, .string lx] 94
            have hbp := Blk.new w1 94 #[.pointer (some A), .int .i64 hzx, .string fx, .string lx]
            have HX1 := Lib.hid hx1'
            have HBP := Lib.hid hbp
            clear hx1 hx1' hbp
            gi_wp2_with fail
            refine ⟨trivial, ?_⟩
            refine (callsIn_wide.2 (HHY.out _ HX1.out)).mono ?_
            rintro e w2 ⟨rfl, hx2⟩
            have hbp2 := HBP.out.ext hx2
            have p0 : w2.cell? ⟨w1.heap.size, 0, none⟩ = some (.pointer (some A)) := hbp2.cell 0
            have p1 : w2.cell? ⟨w1.heap.size, 1, none⟩ = some (.int .i64 hzx) := hbp2.cell 1
            have p2 : w2.cell? ⟨w1.heap.size, 2, none⟩ = some (.string fx) := hbp2.cell 2
            have p3 : w2.cell? ⟨w1.heap.size, 3, none⟩ = some (.string lx) := hbp2.cell 3
            have lp := hbp2.lt
            have hx3 := (HX1.out.trans hx2).alloc #[.pointer none, .int .i64 (-1), .string fy, .string ly] 94
            have HS3 := Lib.hid (HS.out.ext hx3)
            have HW3 := Lib.hid hx3
            clear hx2 hx3 hbp2
            gi_wp2_with fail
            refine ⟨trivial, ?_⟩
            refine (callsIn_wide.2 (open_any HS3.out.cx hnx (HOX.out a (List.mem_of_getLast? (x.node_some hnx).2.2)))).mono ?_
            rintro e w4 ⟨rfl, E4, r4, hc4, hst4, hE4, hr4⟩
            have HS9 := Lib.hid (HS3.out.movX hst4 hc4 hE4 hr4)
            have HST := Lib.hid (show Step x y x.open_ y [] from .openX hnx hne (.inr (.inr ⟨by rw [← HLX.out, ← HFY.out]; exact HLT.out, by rw [← HLY.out, ← HFX.out]; exact HGT.out, hngy, by rw [y.height_entry hey]; omega⟩)))
            have HRN := Lib.hid (show Run x0 y0 x.open_ y (pre.map CE.c) by have := HRUN.out.step HST.out; rwa [List.append_nil] at this)
            clear hc4 hst4 hE4 hr4
            clear p0 p1 p2 p3 lp
            gi_wp2_with fail
            gi_roundg (x.open_.wt + y.wt)
            case rel => exact ⟨x.open_, y, _, _, _, _, _, _, _, _, rfl, HS9.out, HRN.out⟩
            case measure => exact HST.out.wt
      · skip
        have hngy : ¬ y.gone := fun h => by have := (y.node_some hny).2.2; rw [h.2] at this; cases this
        have HFY := Lib.hid hf1
        have HLY := Lib.hid hl1
        have HB := Lib.hid hB
        have HZY := Lib.hid hz1
        have hz0y : (-1 : Int) < hzy := by omega
        have hz0y' : ¬ hzy < (-1 : Int) := by omega
        clear hf1 hl1 hB hz1
        have hA' := HA.out
        have hB' := HB.out
        by_cases hab : a.at_ = b.at_
        · skip
          have hAB : (decide (some A = some B)) = true := by rw [hA'.trans (congrArg (fun z => (⟨z, 0, none⟩ : Addr)) hab), hB']; simp
          have HAB := Lib.hid hAB
          have HNY := Lib.hid (show y.node = some a by rw [hny, node_same (HS.out.cx.nodes a (List.mem_of_getLast? (x.node_some hnx).2.2)) (HS.out.cy.nodes b (List.mem_of_getLast? (y.node_some hny).2.2)) hab])
          clear hA' hB' hab hAB
          gi_wp2_with fail
          refine ⟨trivial, ?_⟩
          refine (callsIn_wide.2 (HHX.out wr (Ext.refl wr))).mono ?_
          rintro e w1 ⟨rfl, hx1⟩
          have hx1' := hx1.alloc #[.pointer (some A), .int .i64 hzx, .string fx, .string lx] 94
          have hbp := Blk.new w1 94 #[.pointer (some A), .int .i64 hzx, .string fx, .string lx]
          have HX1 := Lib.hid hx1'
          have HBP := Lib.hid hbp
          clear hx1 hx1' hbp
          gi_wp2_with fail
          refine ⟨trivial, ?_⟩
          refine (callsIn_wide.2 (HHY.out _ HX1.out)).mono ?_
          rintro e w2 ⟨rfl, hx2⟩
          have hbp2 := HBP.out.ext hx2
          have p0 : w2.cell? ⟨w1.heap.size, 0, none⟩ = some (.pointer (some A)) := hbp2.cell 0
          have p1 : w2.cell? ⟨w1.heap.size, 1, none⟩ = some (.int .i64 hzx) := hbp2.cell 1
          have p2 : w2.cell? ⟨w1.heap.size, 2, none⟩ = some (.string fx) := hbp2.cell 2
          have p3 : w2.cell? ⟨w1.heap.size, 3, none⟩ = some (.string lx) := hbp2.cell 3
          have lp := hbp2.lt
          have hx3 := (HX1.out.trans hx2).alloc #[.pointer (some B), .int .i64 hzy, .string fy, .string ly] 94
          have HS3 := Lib.hid (HS.out.ext hx3)
          have HW3 := Lib.hid hx3
          clear hx2 hx3 hbp2
          have heq : (binOp .eql 25 (.pointer (some A)) (.pointer (some B))).run Tryz.prog (w2.alloc (.cells #[.pointer (some B), .int .i64 hzy, .string fy, .string ly] 94)) = .ok (.bool true) (w2.alloc (.cells #[.pointer (some B), .int .i64 hzy, .string fy, .string ly] 94)) := by
            have := eql_ptr_any9 (w2.alloc (.cells #[.pointer (some B), .int .i64 hzy, .string fy, .string ly] 94)) (some A) (some B) ((HS3.out.cx.nodes a (List.mem_of_getLast? (x.node_some hnx).2.2)).leads9 (by rw [HA.out]; rfl)) ((HS3.out.cy.nodes b (List.mem_of_getLast? (y.node_some hny).2.2)).leads9 (by rw [HB.out]; rfl))
            rw [this, HAB.out]
          gi_wp2_with fail
          refine ⟨trivial, ?_⟩
          refine (callsIn_wide.2 (skip_cur HS3.out.cx hnx)).mono ?_
          rintro e w4 ⟨rfl, hc4, hst4⟩
          have hS4 := HS3.out.movX (hst4.mono fun i _ hi => .inl hi) hc4 (fun b hb => .inl hb) (fun b hb => .inl hb)
          have HS4 := Lib.hid hS4
          clear hc4 hst4 hS4 p0 p1 p2 p3 lp
          gi_wp2_with fail
          refine ⟨trivial, ?_⟩
          refine (callsIn_wide.2 (skip_cur HS4.out.cy HNY.out)).mono ?_
          rintro e w5 ⟨rfl, hc5, hst5⟩
          have HS9 := Lib.hid (HS4.out.movY (hst5.mono fun i _ hi => .inl hi) hc5 (fun b hb => .inl hb) (fun b hb => .inl hb))
          have HST := Lib.hid (show Step x y x.skip y.skip [] from .skip hnx HNY.out)
          have HRN := Lib.hid (show Run x0 y0 x.skip y.skip (pre.map CE.c) by have := HRUN.out.step HST.out; rwa [List.append_nil] at this)
          clear hc5 hst5
          gi_wp2_with fail
          gi_roundg (x.skip.wt + y.skip.wt)
          case rel => exact ⟨x.skip, y.skip, _, _, _, _, _, _, _, _, rfl, HS9.out, HRN.out⟩
          case measure => exact HST.out.wt
        · skip
          have hAB : (decide (some A = some B)) = false := decide_eq_false fun h => by
            simp only [Option.some.injEq] at h
            rw [hA', hB', Addr.mk.injEq] at h
            exact hab h.1
          have HAB := Lib.hid hAB
          have hne : ¬ sameN x y := fun ⟨a', b', h1, h2, h3⟩ => by
            rw [hnx] at h1; rw [hny] at h2
            obtain rfl : a = a' := by simpa using h1
            obtain rfl : b = b' := by simpa using h2
            exact hab h3
          clear hA' hB' hab hAB
          cases hlt : klt lx fy with
          | true =>
            have hlt' : Op.bytesLess lx.toList fy.toList = true := hlt
            have HLT := Lib.hid hlt
            gi_wp2_with fail
            refine ⟨trivial, ?_⟩
            refine (callsIn_wide.2 (HHX.out wr (Ext.refl wr))).mono ?_
            rintro e w1 ⟨rfl, hx1⟩
            have hx1' := hx1.alloc #[.pointer (some A), .int .i64 hzx, .string fx, .string lx] 94
            have hbp := Blk.new w1 94 #[.pointer (some A), .int .i64 hzx, .string fx, .string lx]
            have HX1 := Lib.hid hx1'
            have HBP := Lib.hid hbp
            clear hx1 hx1' hbp
            gi_wp2_with fail
            refine ⟨trivial, ?_⟩
            refine (callsIn_wide.2 (HHY.out _ HX1.out)).mono ?_
            rintro e w2 ⟨rfl, hx2⟩
            have hbp2 := HBP.out.ext hx2
            have p0 : w2.cell? ⟨w1.heap.size, 0, none⟩ = some (.pointer (some A)) := hbp2.cell 0
            have p1 : w2.cell? ⟨w1.heap.size, 1, none⟩ = some (.int .i64 hzx) := hbp2.cell 1
            have p2 : w2.cell? ⟨w1.heap.size, 2, none⟩ = some (.string fx) := hbp2.cell 2
            have p3 : w2.cell? ⟨w1.heap.size, 3, none⟩ = some (.string lx) := hbp2.cell 3
            have lp := hbp2.lt
            have hx3 := (HX1.out.trans hx2).alloc #[.pointer (some B), .int .i64 hzy, .string fy, .string ly] 94
            have HS3 := Lib.hid (HS.out.ext hx3)
            have HW3 := Lib.hid hx3
            clear hx2 hx3 hbp2
            have heq : (binOp .eql 25 (.pointer (some A)) (.pointer (some B))).run Tryz.prog (w2.alloc (.cells #[.pointer (some B), .int .i64 hzy, .string fy, .string ly] 94)) = .ok (.bool false) (w2.alloc (.cells #[.pointer (some B), .int .i64 hzy, .string fy, .string ly] 94)) := by
              have := eql_ptr_any9 (w2.alloc (.cells #[.pointer (some B), .int .i64 hzy, .string fy, .string ly] 94)) (some A) (some B) ((HS3.out.cx.nodes a (List.mem_of_getLast? (x.node_some hnx).2.2)).leads9 (by rw [HA.out]; rfl)) ((HS3.out.cy.nodes b (List.mem_of_getLast? (y.node_some hny).2.2)).leads9 (by rw [HB.out]; rfl))
              rw [this, HAB.out]
            gi_wp2_with fail
            refine ⟨trivial, ?_⟩
            refine (callsIn_wide.2 (open_any HS3.out.cx hnx (HOX.out a (List.mem_of_getLast? (x.node_some hnx).2.2)))).mono ?_
            rintro e w4 ⟨rfl, E4, r4, hc4, hst4, hE4, hr4⟩
            have HS9 := Lib.hid (HS3.out.movX hst4 hc4 hE4 hr4)
            have HST := Lib.hid (show Step x y x.open_ y [] from .openX hnx hne (.inr (.inl (by rw [← HLX.out, ← HFY.out]; exact HLT.out))))
            have HRN := Lib.hid (show Run x0 y0 x.open_ y (pre.map CE.c) by have := HRUN.out.step HST.out; rwa [List.append_nil] at this)
            clear hc4 hst4 hE4 hr4
            clear p0 p1 p2 p3 lp
            gi_wp2_with fail
            gi_roundg (x.open_.wt + y.wt)
            case rel => exact ⟨x.open_, y, _, _, _, _, _, _, _, _, rfl, HS9.out, HRN.out⟩
            case measure => exact HST.out.wt
          | false =>
            have hlt' : Op.bytesLess lx.toList fy.toList = false := hlt
            have HLT := Lib.hid hlt
            cases hgt : klt ly fx with
            | true =>
              have hgt' : Op.bytesLess ly.toList fx.toList = true := hgt
              have HGT := Lib.hid hgt
              gi_wp2_with fail
              refine ⟨trivial, ?_⟩
              refine (callsIn_wide.2 (HHX.out wr (Ext.refl wr))).mono ?_
              rintro e w1 ⟨rfl, hx1⟩
              have hx1' := hx1.alloc #[.pointer (some A), .int .i64 hzx, .string fx, .string lx] 94
              have hbp := Blk.new w1 94 #[.pointer (some A), .int .i64 hzx, .string fx, .string lx]
              have HX1 := Lib.hid hx1'
              have HBP := Lib.hid hbp
              clear hx1 hx1' hbp
              gi_wp2_with fail
              refine ⟨trivial, ?_⟩
              refine (callsIn_wide.2 (HHY.out _ HX1.out)).mono ?_
              rintro e w2 ⟨rfl, hx2⟩
              have hbp2 := HBP.out.ext hx2
              have p0 : w2.cell? ⟨w1.heap.size, 0, none⟩ = some (.pointer (some A)) := hbp2.cell 0
              have p1 : w2.cell? ⟨w1.heap.size, 1, none⟩ = some (.int .i64 hzx) := hbp2.cell 1
              have p2 : w2.cell? ⟨w1.heap.size, 2, none⟩ = some (.string fx) := hbp2.cell 2
              have p3 : w2.cell? ⟨w1.heap.size, 3, none⟩ = some (.string lx) := hbp2.cell 3
              have lp := hbp2.lt
              have hx3 := (HX1.out.trans hx2).alloc #[.pointer (some B), .int .i64 hzy, .string fy, .string ly] 94
              have HS3 := Lib.hid (HS.out.ext hx3)
              have HW3 := Lib.hid hx3
              clear hx2 hx3 hbp2
              have heq : (binOp .eql 25 (.pointer (some A)) (.pointer (some B))).run Tryz.prog (w2.alloc (.cells #[.pointer (some B), .int .i64 hzy, .string fy, .string ly] 94)) = .ok (.bool false) (w2.alloc (.cells #[.pointer (some B), .int .i64 hzy, .string fy, .string ly] 94)) := by
                have := eql_ptr_any9 (w2.alloc (.cells #[.pointer (some B), .int .i64 hzy, .string fy, .string ly] 94)) (some A) (some B) ((HS3.out.cx.nodes a (List.mem_of_getLast? (x.node_some hnx).2.2)).leads9 (by rw [HA.out]; rfl)) ((HS3.out.cy.nodes b (List.mem_of_getLast? (y.node_some hny).2.2)).leads9 (by rw [HB.out]; rfl))
                rw [this, HAB.out]
              gi_wp2_with fail
              refine ⟨trivial, ?_⟩
              refine (callsIn_wide.2 (open_any HS3.out.cy hny (HOY.out b (List.mem_of_getLast? (y.node_some hny).2.2)))).mono ?_
              rintro e w4 ⟨rfl, E4, r4, hc4, hst4, hE4, hr4⟩
              have HS9 := Lib.hid (HS3.out.movY hst4 hc4 hE4 hr4)
              have HST := Lib.hid (show Step x y x y.open_ [] from .openY hny hne (.inr (.inl (by rw [← HLY.out, ← HFX.out]; exact HGT.out))))
              have HRN := Lib.hid (show Run x0 y0 x y.open_ (pre.map CE.c) by have := HRUN.out.step HST.out; rwa [List.append_nil] at this)
              clear hc4 hst4 hE4 hr4
              clear p0 p1 p2 p3 lp
              gi_wp2_with fail
              gi_roundg (x.wt + y.open_.wt)
              case rel => exact ⟨x, y.open_, _, _, _, _, _, _, _, _, rfl, HS9.out, HRN.out⟩
              case measure => exact HST.out.wt
            | false =>
              have hgt' : Op.bytesLess ly.toList fx.toList = false := hgt
              have HGT := Lib.hid hgt
              by_cases hg : hzy < hzx
              · have HG := Lib.hid hg
                gi_wp2_with fail
                refine ⟨trivial, ?_⟩
                refine (callsIn_wide.2 (HHX.out wr (Ext.refl wr))).mono ?_
                rintro e w1 ⟨rfl, hx1⟩
                have hx1' := hx1.alloc #[.pointer (some A), .int .i64 hzx, .string fx, .string lx] 94
                have hbp := Blk.new w1 94 #[.pointer (some A), .int .i64 hzx, .string fx, .string lx]
                have HX1 := Lib.hid hx1'
                have HBP := Lib.hid hbp
                clear hx1 hx1' hbp
                gi_wp2_with fail
                refine ⟨trivial, ?_⟩
                refine (callsIn_wide.2 (HHY.out _ HX1.out)).mono ?_
                rintro e w2 ⟨rfl, hx2⟩
                have hbp2 := HBP.out.ext hx2
                have p0 : w2.cell? ⟨w1.heap.size, 0, none⟩ = some (.pointer (some A)) := hbp2.cell 0
                have p1 : w2.cell? ⟨w1.heap.size, 1, none⟩ = some (.int .i64 hzx) := hbp2.cell 1
                have p2 : w2.cell? ⟨w1.heap.size, 2, none⟩ = some (.string fx) := hbp2.cell 2
                have p3 : w2.cell? ⟨w1.heap.size, 3, none⟩ = some (.string lx) := hbp2.cell 3
                have lp := hbp2.lt
                have hx3 := (HX1.out.trans hx2).alloc #[.pointer (some B), .int .i64 hzy, .string fy, .string ly] 94
                have HS3 := Lib.hid (HS.out.ext hx3)
                have HW3 := Lib.hid hx3
                clear hx2 hx3 hbp2
                have heq : (binOp .eql 25 (.pointer (some A)) (.pointer (some B))).run Tryz.prog (w2.alloc (.cells #[.pointer (some B), .int .i64 hzy, .string fy, .string ly] 94)) = .ok (.bool false) (w2.alloc (.cells #[.pointer (some B), .int .i64 hzy, .string fy, .string ly] 94)) := by
                  have := eql_ptr_any9 (w2.alloc (.cells #[.pointer (some B), .int .i64 hzy, .string fy, .string ly] 94)) (some A) (some B) ((HS3.out.cx.nodes a (List.mem_of_getLast? (x.node_some hnx).2.2)).leads9 (by rw [HA.out]; rfl)) ((HS3.out.cy.nodes b (List.mem_of_getLast? (y.node_some hny).2.2)).leads9 (by rw [HB.out]; rfl))
                  rw [this, HAB.out]
                gi_wp2_with fail
                refine ⟨trivial, ?_⟩
                refine (callsIn_wide.2 (open_any HS3.out.cx hnx (HOX.out a (List.mem_of_getLast? (x.node_some hnx).2.2)))).mono ?_
                rintro e w4 ⟨rfl, E4, r4, hc4, hst4, hE4, hr4⟩
                have HS9 := Lib.hid (HS3.out.movX hst4 hc4 hE4 hr4)
                have HST := Lib.hid (show Step x y x.open_ y [] from .openX hnx hne (.inr (.inr ⟨by rw [← HLX.out, ← HFY.out]; exact HLT.out, by rw [← HLY.out, ← HFX.out]; exact HGT.out, hngy, by rw [y.height_node hny, ← HZX.out, ← HZY.out]; exact HG.out⟩)))
                have HRN := Lib.hid (show Run x0 y0 x.open_ y (pre.map CE.c) by have := HRUN.out.step HST.out; rwa [List.append_nil] at this)
                clear hc4 hst4 hE4 hr4
                clear p0 p1 p2 p3 lp
                gi_wp2_with fail
                gi_roundg (x.open_.wt + y.wt)
                case rel => exact ⟨x.open_, y, _, _, _, _, _, _, _, _, rfl, HS9.out, HRN.out⟩
                case measure => exact HST.out.wt
              · have HG := Lib.hid hg
                by_cases hg2 : hzx < hzy
                · skip
                  gi_wp2_with fail
                  refine ⟨trivial, ?_⟩
                  refine (callsIn_wide.2 (HHX.out wr (Ext.refl wr))).mono ?_
                  rintro e w1 ⟨rfl, hx1⟩
                  have hx1' := hx1.alloc #[.pointer (some A), .int .i64 hzx, .string fx, .string lx] 94
                  have hbp := Blk.new w1 94 #[.pointer (some A), .int .i64 hzx, .string fx, .string lx]
                  have HX1 := Lib.hid hx1'
                  have HBP := Lib.hid hbp
                  clear hx1 hx1' hbp
                  gi_wp2_with fail
                  refine ⟨trivial, ?_⟩
                  refine (callsIn_wide.2 (HHY.out _ HX1.out)).mono ?_
                  rintro e w2 ⟨rfl, hx2⟩
                  have hbp2 := HBP.out.ext hx2
                  have p0 : w2.cell? ⟨w1.heap.size, 0, none⟩ = some (.pointer (some A)) := hbp2.cell 0
                  have p1 : w2.cell? ⟨w1.heap.size, 1, none⟩ = some (.int .i64 hzx) := hbp2.cell 1
                  have p2 : w2.cell? ⟨w1.heap.size, 2, none⟩ = some (.string fx) := hbp2.cell 2
                  have p3 : w2.cell? ⟨w1.heap.size, 3, none⟩ = some (.string lx) := hbp2.cell 3
                  have lp := hbp2.lt
                  have hx3 := (HX1.out.trans hx2).alloc #[.pointer (some B), .int .i64 hzy, .string fy, .string ly] 94
                  have HS3 := Lib.hid (HS.out.ext hx3)
                  have HW3 := Lib.hid hx3
                  clear hx2 hx3 hbp2
                  have heq : (binOp .eql 25 (.pointer (some A)) (.pointer (some B))).run Tryz.prog (w2.alloc (.cells #[.pointer (some B), .int .i64 hzy, .string fy, .string ly] 94)) = .ok (.bool false) (w2.alloc (.cells #[.pointer (some B), .int .i64 hzy, .string fy, .string ly] 94)) := by
                    have := eql_ptr_any9 (w2.alloc (.cells #[.pointer (some B), .int .i64 hzy, .string fy, .string ly] 94)) (some A) (some B) ((HS3.out.cx.nodes a (List.mem_of_getLast? (x.node_some hnx).2.2)).leads9 (by rw [HA.out]; rfl)) ((HS3.out.cy.nodes b (List.mem_of_getLast? (y.node_some hny).2.2)).leads9 (by rw [HB.out]; rfl))
                    rw [this, HAB.out]
                  gi_wp2_with fail
                  refine ⟨trivial, ?_⟩
                  refine (callsIn_wide.2 (open_any HS3.out.cy hny (HOY.out b (List.mem_of_getLast? (y.node_some hny).2.2)))).mono ?_
                  rintro e w4 ⟨rfl, E4, r4, hc4, hst4, hE4, hr4⟩
                  have HS9 := Lib.hid (HS3.out.movY hst4 hc4 hE4 hr4)
                  have HST := Lib.hid (show Step x y x y.open_ [] from .openY hny hne (.inr (.inr ⟨by rw [← HLX.out, ← HFY.out]; exact HLT.out, by rw [← HLY.out, ← HFX.out]; exact HGT.out, hngx, by rw [x.height_node hnx, ← HZX.out, ← HZY.out]; exact HG.out⟩)))
                  have HRN := Lib.hid (show Run x0 y0 x y.open_ (pre.map CE.c) by have := HRUN.out.step HST.out; rwa [List.append_nil] at this)
                  clear hc4 hst4 hE4 hr4
                  clear p0 p1 p2 p3 lp
                  gi_wp2_with fail
                  gi_roundg (x.wt + y.open_.wt)
                  case rel => exact ⟨x, y.open_, _, _, _, _, _, _, _, _, rfl, HS9.out, HRN.out⟩
                  case measure => exact HST.out.wt
                · skip
                  gi_wp2_with fail
                  refine ⟨trivial, ?_⟩
                  refine (callsIn_wide.2 (HHX.out wr (Ext.refl wr))).mono ?_
                  rintro e w1 ⟨rfl, hx1⟩
                  have hx1' := hx1.alloc #[.pointer (some A), .int .i64 hzx, .string fx, .string lx] 94
                  have hbp := Blk.new w1 94 #[.pointer (some A), .int .i64 hzx, .string fx, .string lx]
                  have HX1 := Lib.hid hx1'
                  have HBP := Lib.hid hbp
                  clear hx1 hx1' hbp
                  gi_wp2_with fail
                  refine ⟨trivial, ?_⟩
                  refine (callsIn_wide.2 (HHY.out _ HX1.out)).mono ?_
                  rintro e w2 ⟨rfl, hx2⟩
                  have hbp2 := HBP.out.ext hx2
                  have p0 : w2.cell? ⟨w1.heap.size, 0, none⟩ = some (.pointer (some A)) := hbp2.cell 0
                  have p1 : w2.cell? ⟨w1.heap.size, 1, none⟩ = some (.int .i64 hzx) := hbp2.cell 1
                  have p2 : w2.cell? ⟨w1.heap.size, 2, none⟩ = some (.string fx) := hbp2.cell 2
                  have p3 : w2.cell? ⟨w1.heap.size, 3, none⟩ = some (.string lx) := hbp2.cell 3
                  have lp := hbp2.lt
                  have hx3 := (HX1.out.trans hx2).alloc #[.pointer (some B), .int .i64 hzy, .string fy, .string ly] 94
                  have HS3 := Lib.hid (HS.out.ext hx3)
                  have HW3 := Lib.hid hx3
                  clear hx2 hx3 hbp2
                  have heq : (binOp .eql 25 (.pointer (some A)) (.pointer (some B))).run Tryz.prog (w2.alloc (.cells #[.pointer (some B), .int .i64 hzy, .string fy, .string ly] 94)) = .ok (.bool false) (w2.alloc (.cells #[.pointer (some B), .int .i64 hzy, .string fy, .string ly] 94)) := by
                    have := eql_ptr_any9 (w2.alloc (.cells #[.pointer (some B), .int .i64 hzy, .string fy, .string ly] 94)) (some A) (some B) ((HS3.out.cx.nodes a (List.mem_of_getLast? (x.node_some hnx).2.2)).leads9 (by rw [HA.out]; rfl)) ((HS3.out.cy.nodes b (List.mem_of_getLast? (y.node_some hny).2.2)).leads9 (by rw [HB.out]; rfl))
                    rw [this, HAB.out]
                  gi_wp2_with fail
                  refine ⟨trivial, ?_⟩
                  refine (callsIn_wide.2 (open_any HS3.out.cy hny (HOY.out b (List.mem_of_getLast? (y.node_some hny).2.2)))).mono ?_
                  rintro e w4 ⟨rfl, E4, r4, hc4, hst4, hE4, hr4⟩
                  have HS9 := Lib.hid (HS3.out.movY hst4 hc4 hE4 hr4)
                  have HST := Lib.hid (show Step x y x y.open_ [] from .openY hny hne (.inr (.inr ⟨by rw [← HLX.out, ← HFY.out]; exact HLT.out, by rw [← HLY.out, ← HFX.out]; exact HGT.out, hngx, by rw [x.height_node hnx, ← HZX.out, ← HZY.out]; exact HG.out⟩)))
                  have HRN := Lib.hid (show Run x0 y0 x y.open_ (pre.map CE.c) by have := HRUN.out.step HST.out; rwa [List.append_nil] at this)
                  clear hc4 hst4 hE4 hr4
                  clear p0 p1 p2 p3 lp
                  gi_wp2_with fail
                  gi_roundg (x.wt + y.open_.wt)
                  case rel => exact ⟨x, y.open_, _, _, _, _, _, _, _, _, rfl, HS9.out, HRN.out⟩
                  case measure => exact HST.out.wt
end Go.Proofs.YtpapoalgocmlaaaGreat
namespace Go.Proofs.YtpapoalgocmlaaaGreat
open Go.RowKit Go.Shelf
set_option linter.unusedVariables false
set_option linter.unusedSimpArgs false
def CountPost (T U : RT) (w : World) (e : Ending) (w' : World) : Prop :=
  ∃ o : Nat, e = .returned (.tuple #[.int .i64 (chg (entsT T) (entsT U)).length, .int .i64 o]) ∧ o ≤ freshR U T + freshR T U ∧ Ext w w'
set_option maxRecDepth 100000 in
set_option maxHeartbeats 4000000 in
theorem countD_any {w : World} {F F' : Nat → Prop} {T U : RT} (hT : IsT w F T) (hU : IsT w F' U) (hF : ∀ b, F b → b < w.heap.size) (hF' : ∀ b, F' b → b < w.heap.size) (ok : OkR T) (ok' : OkR U) (hl : (entsT T).length ≤ 500000) (hl' : (entsT U).length ≤ 500000) :
    Calls Tryz.prog 7 #[treeV T, treeV U] w (CountPost T U w) := by
  have hst1 : ∀ W', Ext w W' → Calls Tryz.prog 18 #[treeV T] W' (StartPost F w.heap.size T W') := fun W' hW => start_any (hT.agree (hW.agree hF)) hF hW.size (Nat.le_trans (nodesT_le ok) (by omega))
  have hst2 : ∀ W', Ext w W' → Calls Tryz.prog 18 #[treeV U] W' (StartPost F' w.heap.size U W') := fun W' hW => start_any (hU.agree (hW.agree hF')) hF' hW.size (Nat.le_trans (nodesT_le ok') (by omega))
  obtain ⟨p, hp⟩ := rootV_ptr T
  obtain ⟨q, hq⟩ := rootV_ptr U
  have hal : (chg (startS T).cont (startS U).cont).length ≤ 2000000 := by
    rw [startS_cont, startS_cont]
    have := chg_len (entsT T) (entsT U)
    omega
  rw [treeV, hp] at hst1 ⊢
  rw [treeV, hq] at hst2 ⊢
  have hro := fun (x y : CurS) (l : List Chg) (h : Run (startS T) (startS U) x y l) => run_opened hT hU ok ok' h
  have hdn := fun (x y : CurS) (l : List Chg) (h : Run (startS T) (startS U) x y l) (gx : x.gone) (gy : y.gone) => h.done (startS_ok ok) (startS_ok ok') gx gy
  have HF := Lib.hid hF
  have HF' := Lib.hid hF'
  have HOK := Lib.hid (startS_ok ok)
  have HOK' := Lib.hid (startS_ok ok')
  have HS1 := Lib.hid hst1
  have HS2 := Lib.hid hst2
  have HAL := Lib.hid hal
  have HRO := Lib.hid hro
  have HDN := Lib.hid hdn
  clear hT hU hF hF' ok ok' hl hl' hst1 hst2 hp hq hal hro hdn
  go_enter Tryz.func7, Tryz.ntmps7
  go_wp2_with fail
  generalize hW0 : World.alloc (World.alloc _ _) _ = W0
  obtain ⟨hx0, hz0, hb0, hb1⟩ := two_blocks w _ _ _ _ W0 hW0
  have HX0 := Lib.hid hx0
  have HSS := Lib.hid (show ∀ W1, Ext W0 W1 → W1.cell? ⟨w.heap.size, 0, none⟩ = some (.pointer p) ∧ W1.cell? ⟨w.heap.size + 1, 0, none⟩ = some (.pointer q) from fun W1 hW => ⟨(hb0.ext hW).cell 0, (hb1.ext hW).cell 0⟩)
  have hs0 := hx0.size
  clear hW0 hx0 hb0 hb1 hz0
  refine wp_region_held_drew (S := (fun w' => Ext W0 w')) (by kernel_rfl) (((Ext.refl W0).drew)) (fun hHeld => ?_)
  refine held_on (i := 0) (d := (some 9)) (v := ?_) rfl rfl (by kernel_rfl) (by kernel_rfl) (by kernel_rfl) (fun _ _ _ h => h) (by rfl) hHeld ?_ ?_
  rotate_left
  focus (intro w hSw; have hSc := HSS.out w hSw; clear hSw; go_simp; first | done | with_reducible rfl)
  try simp only [Act.put, List.setIfInBounds_toArray, List.set_cons_zero, List.set_cons_succ]
  refine held_on (i := 2) (d := (some 11)) (v := ?_) rfl rfl (by kernel_rfl) (by kernel_rfl) (by kernel_rfl) (fun _ _ _ h => h) (by rfl) hHeld ?_ ?_
  rotate_left
  focus (intro w hSw; have hSc := HSS.out w hSw; clear hSw; go_simp; first | done | with_reducible rfl)
  try simp only [Act.put, List.setIfInBounds_toArray, List.set_cons_zero, List.set_cons_succ]
  refine held_call (i := 1) (by kernel_rfl) rfl (by rfl) (fun K hK => ?_)
  go_simp
  (refine (HS1.out _ (HX0.out.trans hHeld)).mono ?_; rintro e w1 ⟨X, rx, rfl, hx1, hcx, hX, hrx⟩; have HX1 := Lib.hid (hHeld.trans hx1); have HCX := Lib.hid hcx; have HRX := Lib.hid hrx; clear hcx hx1 hrx)
  refine hK.out _ _ (HX1.out) (fun hHeld => ?_)
  clear hK K
  try simp only [Act.put, List.setIfInBounds_toArray, List.set_cons_zero, List.set_cons_succ]
  refine held_call (i := 3) (by kernel_rfl) rfl (by rfl) (fun K hK => ?_)
  go_simp
  (refine (HS2.out _ (HX0.out.trans HX1.out)).mono ?_; rintro e w2 ⟨Y, ry, rfl, hx2, hcy, hY, hry⟩; have HX2 := Lib.hid hx2; have HCY := Lib.hid hcy; have HRY := Lib.hid hry; clear hcy hx2 hry)
  refine hK.out _ _ ((HX1.out.trans HX2.out)) (fun hHeld => ?_)
  clear hK K
  try simp only [Act.put, List.setIfInBounds_toArray, List.set_cons_zero, List.set_cons_succ]
  refine held_on (i := 4) (d := (some 6)) (v := ?_) rfl rfl (by kernel_rfl) (by kernel_rfl) (by kernel_rfl) (fun _ _ _ h => h) (by rfl) hHeld ?_ ?_
  rotate_left
  focus (intro w hSw; have hSc := HSS.out w hSw; clear hSw; go_simp; first | done | with_reducible rfl)
  try simp only [Act.put, List.setIfInBounds_toArray, List.set_cons_zero, List.set_cons_succ]
  refine held_on (i := 5) (d := (some 7)) (v := ?_) rfl rfl (by kernel_rfl) (by kernel_rfl) (by kernel_rfl) (fun _ _ _ h => h) (by rfl) hHeld ?_ ?_
  rotate_left
  focus (intro w hSw; have hSc := HSS.out w hSw; clear hSw; go_simp; first | done | with_reducible rfl)
  try simp only [Act.put, List.setIfInBounds_toArray, List.set_cons_zero, List.set_cons_succ]
  refine wpAnyH_done (by kernel_rfl) ?_ _
  have hsd : W0.heap.size ≤ W0.drew.heap.size := Nat.le_refl _
  have hs1 := HX1.out.size
  have hs2 := HX2.out.size
  have hx3 := (Ext.refl w2).alloc #[.int .i64 0] 3
  have hb3 := Blk.new w2 3 #[.int .i64 0]
  have hX3 := ((HX0.out.trans HX1.out).trans HX2.out).trans hx3
  have hm : WalkM F F' w.heap.size X Y (fun _ => False) (JN w2.heap.size) w (startS T) (startS U) rx ry (fun _ => False) (fun _ => False) [] (fun b => b = w2.heap.size) (Own X Y rx ry) (w2.alloc (.cells #[.int .i64 0] 3)) (w2.alloc (.cells #[.int .i64 0] 3)) := by
    have hcx := HCX.out
    have hcy := HCY.out
    have lX := hcx.lt
    have lY := hcy.lt
    have lrx := hcx.rlt
    have lry := hcy.rlt
    have hz : (w2.alloc (.cells #[.int .i64 0] 3)).heap.size = w2.heap.size + 1 := by simp
    have hown : ∀ b, Own X Y rx ry b → w.heap.size ≤ b ∧ b < w2.heap.size := fun b hb => by
      rcases hb with rfl | rfl | hb | hb
      · exact ⟨by omega, by omega⟩
      · exact ⟨by omega, by omega⟩
      · have := lrx b hb; exact ⟨this.1, by omega⟩
      · have := lry b hb; exact ⟨this.1, this.2⟩
    have hY1 : ∀ b, (b = Y ∨ ry = some b) → w1.heap.size ≤ b := fun b hb => hb.elim (fun e => by omega) (HRY.out b)
    refine ⟨⟨hb3, rfl, fun h => by have := (hown _ h).2; omega⟩, St.refl _ _, hcx.ext (HX2.out.trans hx3), hcy.ext hx3, fun b hb => .inl hb, fun b hb => (hown b hb).1, fun b hb hh => ?_, fun b hb hh => ?_, fun b hb => ?_, fun b hb => ?_, hX3.st _, fun b hb => .inr ?_, rfl⟩
    · have hlo : w.heap.size ≤ b := hb.elim (fun e => by omega) (fun e => (lrx b e).1)
      have hup : b < w1.heap.size := hb.elim (fun e => by omega) (fun e => (lrx b e).2)
      rcases hh with h | h | h | h
      · have := HF'.out b h; omega
      · exact h
      · omega
      · have := HRY.out b h; omega
    · have hlo := hY1 b hb
      rcases hh with h | h | h | h
      · have := HF.out b h; omega
      · exact h
      · omega
      · have := (lrx b h).2; omega
    · obtain rfl : b = w2.heap.size := hb
      refine ⟨fun hh => ?_, fun hh => ?_⟩
      · rcases hh with h | h | h | h
        · have := HF.out _ h; omega
        · exact h
        · omega
        · have := (lrx _ h).2; omega
      · rcases hh with h | h | h | h
        · have := HF'.out _ h; omega
        · exact h
        · omega
        · have := (lry _ h).2; omega
    · omega
    · omega
  have hwk := diffcount_any hm HOK.out HOK'.out HAL.out
  have HWK := Lib.hid hwk
  have HX3 := Lib.hid hX3
  clear hx3 hb3 hX3 hm hwk hHeld
  go_wp2_with fail
  refine HWK.out.mono ?_
  rintro e w4 ⟨rfl, x, y, rx', ry', Ex, Ey, pre, C', D, Wj, hm, hrun, gx, gy⟩
  have hbn := hm.jn.1
  obtain ⟨es1, nd1, xs1, -, hbx, -⟩ := hm.cx.ex
  obtain ⟨es2, nd2, xs2, -, hby, -⟩ := hm.cy.ex
  have HSS4 := Lib.hid (show ∀ W1, Ext w4 W1 → W1.cell? ⟨w2.heap.size, 0, none⟩ = some (.int .i64 pre.length) ∧ W1.cell? ⟨X, 2, none⟩ = some (.int .i64 x.o) ∧ W1.cell? ⟨Y, 2, none⟩ = some (.int .i64 y.o) from fun W1 hW => ⟨(hbn.ext hW).cell 0, (hbx.ext hW).cell 2, (hby.ext hW).cell 2⟩)
  have hxo : x.o ≤ 1000000 := by have := hm.cx.few; unfold CurS.tot at this; omega
  have hyo : y.o ≤ 1000000 := by have := hm.cy.few; unfold CurS.tot at this; omega
  have HX4 := Lib.hid ((Ext.refl w).step hm.st (fun b hb => hb.elim))
  have hlen : pre.length = (chg (entsT T) (entsT U)).length := by
    have := HDN.out _ _ _ hrun gx gy
    rw [startS_cont, startS_cont] at this
    rw [this, List.length_map]
  have HOP := Lib.hid (HRO.out _ _ _ hrun)
  have HLEN := Lib.hid hlen
  have hsum : IntKind.i64.wrap ((x.o : Int) + (y.o : Int)) = (x.o : Int) + (y.o : Int) := by rw [IntKind.wrap_i64]; omega
  clear hm hrun gx gy hbn hbx hby hlen
  go_wp2_with fail
  refine wp_region_held_drew (S := (fun w' => Ext w4 w')) (by kernel_rfl) (((Ext.refl w4).drew)) (fun hHeld => ?_)
  refine held_on (i := 0) (d := (some 17)) (v := ?_) rfl rfl (by kernel_rfl) (by kernel_rfl) (by kernel_rfl) (fun _ _ _ h => h) (by rfl) hHeld ?_ ?_
  rotate_left
  focus (intro w hSw; have hSc := HSS4.out w hSw; clear hSw; go_simp; first | done | with_reducible rfl)
  try simp only [Act.put, List.setIfInBounds_toArray, List.set_cons_zero, List.set_cons_succ]
  refine held_on (i := 1) (d := (some 18)) (v := ?_) rfl rfl (by kernel_rfl) (by kernel_rfl) (by kernel_rfl) (fun _ _ _ h => h) (by rfl) hHeld ?_ ?_
  rotate_left
  focus (intro w hSw; have hSc := HSS4.out w hSw; clear hSw; go_simp; first | done | with_reducible rfl)
  try simp only [Act.put, List.setIfInBounds_toArray, List.set_cons_zero, List.set_cons_succ]
  refine held_on (i := 2) (d := (some 19)) (v := ?_) rfl rfl (by kernel_rfl) (by kernel_rfl) (by kernel_rfl) (fun _ _ _ h => h) (by rfl) hHeld ?_ ?_
  rotate_left
  focus (intro w hSw; have hSc := HSS4.out w hSw; clear hSw; go_simp; first | done | with_reducible rfl)
  try simp only [Act.put, List.setIfInBounds_toArray, List.set_cons_zero, List.set_cons_succ]
  refine held_on (i := 3) (d := (some 20)) (v := ?_) rfl rfl (by kernel_rfl) (by kernel_rfl) (by kernel_rfl) (fun _ _ _ h => h) (by rfl) hHeld ?_ ?_
  rotate_left
  focus (intro w hSw; have hSc := HSS4.out w hSw; clear hSw; go_simp; first | done | with_reducible rfl)
  try simp only [Act.put, List.setIfInBounds_toArray, List.set_cons_zero, List.set_cons_succ]
  refine held_on (i := 4) (d := (some 21)) (v := ?_) rfl rfl (by kernel_rfl) (by kernel_rfl) (by kernel_rfl) (fun _ _ _ h => h) (by rfl) hHeld ?_ ?_
  rotate_left
  focus (intro w hSw; have hSc := HSS4.out w hSw; clear hSw; go_simp; first | done | with_reducible rfl)
  try simp only [Act.put, List.setIfInBounds_toArray, List.set_cons_zero, List.set_cons_succ]
  refine held_on (i := 5) (d := (some 22)) (v := ?_) rfl rfl (by kernel_rfl) (by kernel_rfl) (by kernel_rfl) (fun _ _ _ h => h) (by rfl) hHeld ?_ ?_
  rotate_left
  focus (intro w hSw; have hSc := HSS4.out w hSw; clear hSw; go_simp; first | done | with_reducible rfl)
  try simp only [Act.put, List.setIfInBounds_toArray, List.set_cons_zero, List.set_cons_succ]
  refine held_on (i := 6) (d := (some 23)) (v := ?_) rfl rfl (by kernel_rfl) (by kernel_rfl) (by kernel_rfl) (fun _ _ _ h => h) (by rfl) hHeld ?_ ?_
  rotate_left
  focus (intro w hSw; have hSc := HSS4.out w hSw; clear hSw; go_simp; first | done | with_reducible rfl)
  try simp only [Act.put, List.setIfInBounds_toArray, List.set_cons_zero, List.set_cons_succ]
  refine held_on (i := 7) (d := (some 24)) (v := ?_) rfl rfl (by kernel_rfl) (by kernel_rfl) (by kernel_rfl) (fun _ _ _ h => h) (by rfl) hHeld ?_ ?_
  rotate_left
  focus (intro w hSw; have hSc := HSS4.out w hSw; clear hSw; go_simp; first | done | with_reducible rfl)
  try simp only [Act.put, List.setIfInBounds_toArray, List.set_cons_zero, List.set_cons_succ]
  refine held_on (i := 8) (d := (some 25)) (v := ?_) rfl rfl (by kernel_rfl) (by kernel_rfl) (by kernel_rfl) (fun _ _ _ h => h) (by rfl) hHeld ?_ ?_
  rotate_left
  focus (intro w hSw; have hSc := HSS4.out w hSw; clear hSw; go_simp; first | done | with_reducible rfl)
  try simp only [Act.put, List.setIfInBounds_toArray, List.set_cons_zero, List.set_cons_succ]
  refine held_on (i := 9) (d := (some 26)) (v := ?_) rfl rfl (by kernel_rfl) (by kernel_rfl) (by kernel_rfl) (fun _ _ _ h => h) (by rfl) hHeld ?_ ?_
  rotate_left
  focus (intro w hSw; have hSc := HSS4.out w hSw; clear hSw; go_simp; first | done | with_reducible rfl)
  try simp only [Act.put, List.setIfInBounds_toArray, List.set_cons_zero, List.set_cons_succ]
  refine held_on (i := 10) (d := (some 4)) (v := ?_) rfl rfl (by kernel_rfl) (by kernel_rfl) (by kernel_rfl) (fun _ _ _ h => h) (by rfl) hHeld ?_ ?_
  rotate_left
  focus (intro w hSw; have hSc := HSS4.out w hSw; clear hSw; go_simp; first | done | with_reducible rfl)
  try simp only [Act.put, List.setIfInBounds_toArray, List.set_cons_zero, List.set_cons_succ]
  refine held_on (i := 11) (d := (some 5)) (v := ?_) rfl rfl (by kernel_rfl) (by kernel_rfl) (by kernel_rfl) (fun _ _ _ h => h) (by rfl) hHeld ?_ ?_
  rotate_left
  focus (intro w hSw; have hSc := HSS4.out w hSw; clear hSw; go_simp; first | done | with_reducible rfl)
  try simp only [Act.put, List.setIfInBounds_toArray, List.set_cons_zero, List.set_cons_succ]
  refine wpAnyH_done (by kernel_rfl) ?_ _
  have HX5 := Lib.hid (HX4.out.trans hHeld)
  clear hHeld
  go_wp2_with fail
  go_ret2
  exact ⟨x.o + y.o, by rw [HLEN.out]; simp, HOP.out, HX5.out⟩
end Go.Proofs.YtpapoalgocmlaaaGreat
namespace Go.Proofs.YtpapoalgocmlaaaGreat
open Go.RowKit
set_option linter.unusedVariables false
set_option linter.unusedSimpArgs false
def hOf (w : World) : Value → Nat
  | .pointer (some p) => match w.cell? ⟨p.block, 2, none⟩ with
    | some v => (intOf v).toNat
    | none => 0
  | _ => 0
theorem hOf_ptr {w : World} {F : Nat → Prop} {h : Nat} {t : PT h} (hn : IsN w F h t) : hOf w (ptr h t) = h := by
  obtain ⟨-, se, sk, ne, nk, -, hb⟩ := hn.cells
  have := hb.c7.2.2.1
  simp [hOf, this, intOf]
theorem findT_step {key : ByteArray} {k h : Nat} {t : PT (h + 1)} {kid : PT h} (hk : k < h + 1) (hkid : t.2[whichK h t.2 key]? = some kid) : findT key k (h + 1) t = findT key k h kid := by
  simp only [findT, hk, if_true, hkid]
theorem findT_at {key : ByteArray} {k : Nat} : ∀ {h : Nat} {t : PT h}, ¬ k < h → findT key k h t = addr h t
  | 0, _, _ => rfl
  | h + 1, t, hk => by simp only [findT, hk, if_false]
set_option maxRecDepth 100000 in
set_option maxHeartbeats 4000000 in
theorem has_some {w : World} {F G : Nat → Prop} {h0 : Nat} {t0 : PT h0} {k : Nat} {u : PT k} (hF : ∀ b, F b → b < w.heap.size) (hn : IsN w F h0 t0) (ok : OkT h0 t0) (hs : Sorted (ents h0 t0)) (hc : (ents h0 t0).length ≤ 1000000) (hh0 : h0 < 1000000) (hG : ∀ b, G b → b < w.heap.size) (hu : IsN w G k u) :
    Calls Tryz.prog 50 #[ptr h0 t0, ptr k u] w fun e w' => e = .returned (.bool (decide (findT (firstK (ents k u)) k h0 t0 = addr k u))) ∧ Ext w w' := by
  have HU := Lib.hid (fun (W : World) (hW : Ext w W) => hu.agree (hW.agree hG))
  have HF := Lib.hid hF
  obtain ⟨j, hj, hz⟩ := is_info
  have H0 := Lib.hid (show IsN w F h0 t0 ∧ OkT h0 t0 ∧ Sorted (ents h0 t0) ∧ (ents h0 t0).length ≤ 1000000 ∧ h0 < 1000000 from ⟨hn, ok, hs, hc, hh0⟩)
  clear hF hn ok hs hc hG hu hh0
  go_enter Tryz.func50, Tryz.ntmps50
  go_wp2_with fail
  go_loopw [0] (fun v wr => ∃ (h : Nat) (t : PT h), v = ptr h t ∧ IsN wr F h t ∧ OkT h t ∧ Sorted (ents h t) ∧ (ents h t).length ≤ 1000000 ∧ h < 1000000 ∧ findT (firstK (ents k u)) k h t = findT (firstK (ents k u)) k h0 t0 ∧ Ext w wr) (fun v wr => hOf wr v)
  case atStart => exact ⟨h0, t0, rfl, H0.out.1, H0.out.2.1, H0.out.2.2.1, H0.out.2.2.2.1, H0.out.2.2.2.2, rfl, Ext.refl _⟩
  case round =>
    obtain ⟨h, t, rfl, hn, ok, hs, hc, hh, hf, hX⟩ := hrel
    have hu := HU.out _ hX
    have HN := Lib.hid hn
    have HX := Lib.hid hX
    have HFD := Lib.hid hf
    have HUW := Lib.hid hu
    have HOK := Lib.hid ok
    have HS := Lib.hid hs
    have hm := hOf_ptr hn
    have hht := height_any hn
    have hhu := height_any hu
    have HM := Lib.hid hm
    clear hX hf hn hu ok hs hm
    go_wp2_with fail
    refine hht.mono ?_
    rintro e w1 ⟨rfl, rfl⟩
    clear hht
    go_wp2_with fail
    refine hhu.mono ?_
    rintro e w1 ⟨rfl, rfl⟩
    clear hhu
    by_cases hgt : k < h
    · obtain ⟨h, rfl⟩ : ∃ h', h = h' + 1 := ⟨h - 1, by omega⟩
      have hgt' : (k : Int) < (h : Int) + 1 := by omega
      have hpos := kids_pos HOK.out
      obtain ⟨kid, hkid, -, -⟩ := which_split (h := h) (ks := t.2) HS.out hpos (by have := HOK.out.1; omega) (firstK (ents k u))
      have hkm := List.mem_of_getElem? hkid
      have hil := (List.getElem?_eq_some_iff.1 hkid).1
      have hlen8 := HOK.out.2.1
      have hks : ∀ x ∈ t.2, IsN wr F h x := HN.out.2.choose_spec.2.2
      have hkc : (ents h kid).length ≤ 1000000 := Nat.le_trans (by
        show _ ≤ (t.2.flatMap (ents h)).length
        rw [take_mid hkid]; simp only [List.flatMap_append, List.flatMap_cons, List.length_append]; omega) hc
      have hkc2 := kids_any HN.out (by omega)
      have hfst := fun (W : World) (hW : Ext wr W) => HU.out W (HX.out.trans hW)
      go_wp2_with fail
      refine hkc2.mono ?_
      rintro e w1 ⟨s', rfl, hown, hx1⟩
      have hrd : Rd w1 (Lt w1.heap.size) 1 s' t.2.length (ptrs h t.2) := (Rd.of_own hown).mono fun i hi => hi.2
      obtain ⟨g, cap, rfl, hbg, hnc, hcm, hfil⟩ := own_block hown (by omega)
      obtain ⟨i, hi⟩ : ∃ i, whichK h t.2 (firstK (ents k u)) = i := ⟨_, rfl⟩
      have hwh : Calls Tryz.prog 68 #[.slice (some ⟨g, 0, none⟩) t.2.length cap, .string (firstK (ents k u))] w1 fun e w' => e = .returned (.int .i64 i) ∧ Ext w1 w' := by
        rw [← hi]
        exact which_any (s := ⟨some ⟨g, 0, none⟩, cap⟩) hrd (fun x hx => (hks x hx).agree (hx1.agree fun b hb => Nat.lt_of_lt_of_le (HF.out b hb) HX.out.size)) (fun b hb => Nat.lt_of_lt_of_le (HF.out b hb) (HX.out.trans hx1).size) hpos _ HS.out (by omega)
      have hkid' := hkid
      rw [hi] at hkid hil
      obtain ⟨b, o, hba, hbl, -, -, hbc⟩ := hrd.ptr_at hkid
      obtain ⟨rfl, rfl⟩ : g = b ∧ 0 = o := by simpa using hba
      have kc : w1.cell? ⟨g, i, none⟩ = some (ptr h kid) := by simpa using hbc
      have hg1 : g < w1.heap.size := hbl
      have hii : (i : Int) < (t.2.length : Int) := by omega
      have hi0 : (0 : Int) ≤ (i : Int) := by omega
      have hf1 := first_any (hfst w1 hx1)
      have HREL := Lib.hid (show OkT h kid ∧ Sorted (ents h kid) ∧ findT (firstK (ents k u)) k h kid = findT (firstK (ents k u)) k h0 t0 ∧ IsN wr F h kid from ⟨(HOK.out.2.2 kid hkm).1, kid_sorted HS.out kid hkm, by rw [← HFD.out, findT_step hgt hkid'], hks kid hkm⟩)
      have HX1 := Lib.hid hx1
      clear hpos hks hkc2 hfst hown hrd hfil hbc hba hkid hkid' hx1 hkm hi hlen8
      go_wp2_with fail
      refine hf1.mono ?_
      rintro e w2 ⟨rfl, rfl⟩
      clear hf1
      go_wp2_with fail
      refine hwh.mono ?_
      rintro e w2 ⟨rfl, hx2⟩
      replace kc := (hx2.cell hg1).trans kc
      have HX2 := Lib.hid hx2
      clear hx2 hwh
      go_wp2_with fail
      have hnk : IsN w2 F h kid := HREL.out.2.2.2.agree ((HX1.out.trans HX2.out).agree fun b hb => Nat.lt_of_lt_of_le (HF.out b hb) HX.out.size)
      have HNK := Lib.hid hnk
      clear hnk
      go_roundw
      case rel => exact ⟨h, kid, rfl, HNK.out, HREL.out.1, HREL.out.2.1, hkc, by omega, HREL.out.2.2.1, (HX.out.trans HX1.out).trans HX2.out⟩
      case measure => rw [hOf_ptr HNK.out, HM.out]; omega
    · have hgt' : ¬ (k : Int) < (h : Int) := by omega
      have hbt := HN.out.cells.2.choose_spec.choose_spec.choose_spec.choose_spec.2
      have hbu := HUW.out.cells.2.choose_spec.choose_spec.choose_spec.choose_spec.2
      by_cases he : addr h t = addr k u
      · have hq : ∀ W, (binOp .eql 25 (ptr h t) (ptr k u)).run Tryz.prog W = .ok (.bool true) W := fun W => by
          show (binOp .eql 25 (.pointer (some ⟨addr h t, 0, none⟩)) (.pointer (some ⟨addr k u, 0, none⟩))).run Tryz.prog W = _
          rw [he]
          exact run_eql_ptr_same (P := Tryz.prog) W ⟨addr k u, 0, none⟩ Tryz.underlying25 hj
        clear hbt hbu
        go_wp2_with fail
        go_ret
        exact ⟨congrArg (fun b => Ending.returned (.bool b)) (a₁ := true) (by rw [← HFD.out, findT_at hgt, decide_eq_true he]), HX.out⟩
      · have hne : (⟨addr h t, 0, none⟩ : Addr) ≠ ⟨addr k u, 0, none⟩ := fun e => he (by simp at e)
        have hq := run_eql_ptr_other (P := Tryz.prog) wr Tryz.underlying25 hj hz hne hbt hbu
        clear hbt hbu
        go_wp2_with fail
        go_ret
        exact ⟨congrArg (fun b => Ending.returned (.bool b)) (a₁ := false) (by rw [← HFD.out, findT_at hgt, decide_eq_false he]), HX.out⟩
theorem has_none {w : World} {F : Nat → Prop} {k : Nat} {u : PT k} (hn : IsN w F k u) : Calls Tryz.prog 50 #[.pointer none, ptr k u] w fun e w' => e = .returned (.bool false) ∧ Ext w w' := by
  have h1 := height_nil w
  have h2 := height_any hn
  have h3 := fun W => eql_nil_some (P := Tryz.prog) W ⟨addr k u, 0, none⟩ Tryz.underlying25
  clear hn
  go_enter Tryz.func50, Tryz.ntmps50
  go_wp2_with fail
  go_loopw [0] (fun v wr => v = .pointer none ∧ wr = w) (fun _ _ => 0)
  case atStart => exact ⟨rfl, rfl⟩
  case round =>
    obtain ⟨rfl, rfl⟩ := hrel
    go_wp2_with fail
    refine h1.mono ?_
    rintro e w1 ⟨rfl, rfl⟩
    go_wp2_with fail
    refine h2.mono ?_
    rintro e w1 ⟨rfl, rfl⟩
    have g : ¬ (k : Int) < 0 := by omega
    go_wp2_with fail
    go_ret
    exact ⟨rfl, Ext.refl _⟩
theorem has_any {w : World} {F G : Nat → Prop} {T : RT} {k : Nat} {u : PT k} (hF : ∀ b, F b → b < w.heap.size) (hT : IsT w F T) (ok : OkR T) (hc : (entsT T).length ≤ 900000) (hG : ∀ b, G b → b < w.heap.size) (hu : IsN w G k u) :
    Calls Tryz.prog 50 #[rootV T, ptr k u] w fun e w' => e = .returned (.bool (hasR T k u)) ∧ Ext w w' := by
  match T, hT, ok, hc with
  | none, _, _, _ => exact has_none hu
  | some ⟨h, t⟩, hT, ok, hc => exact has_some hF hT ok.1 ok.2.2 (Nat.le_trans hc (by decide)) (Nat.lt_of_lt_of_le (height_lt h t ok.1 ok.2.1) (Nat.le_trans hc (by decide))) hG hu
theorem freshN_le {has : (k : Nat) → PT k → Bool} : ∀ (h : Nat) (u : PT h), OkT h u → 1 ≤ size h u → freshN has h u ≤ (h + 1) * (ents h u).length
  | 0, u, _, hs => by
    have : 1 ≤ (ents 0 u).length := hs
    simp only [freshN]; split <;> omega
  | h + 1, u, ok, hs => by
    have hp : 0 < (ents (h + 1) u).length := Nat.lt_of_le_of_lt (Nat.zero_le _) (height_lt (h + 1) u ok hs)
    have hk : ∀ (l : List (PT h)), (∀ x ∈ l, freshN has h x ≤ (h + 1) * (ents h x).length) → (l.map (freshN has h)).sum ≤ (h + 1) * (l.flatMap (ents h)).length := fun l => by
      induction l with
      | nil => intro _; exact Nat.zero_le _
      | cons a l ih =>
        intro hl
        have h1 := hl a (List.mem_cons_self ..)
        have h2 := ih fun x hx => hl x (List.mem_cons_of_mem _ hx)
        rw [List.map_cons, List.sum_cons, List.flatMap_cons, List.length_append, Nat.mul_add]
        omega
    have h1 := hk u.2 fun x hx => freshN_le h x (ok.2.2 x hx).1 (by have := (ok.2.2 x hx).2; omega)
    have h2 : (h + 1 + 1) * (ents (h + 1) u).length = (h + 1) * (ents (h + 1) u).length + (ents (h + 1) u).length := Nat.succ_mul _ _
    have h3 : (h + 1) * (ents (h + 1) u).length = (h + 1) * (u.2.flatMap (ents h)).length := rfl
    simp only [freshN]
    split
    · omega
    · omega
theorem sum_take {α : Type} {f : α → Nat} : ∀ {l : List α} {j : Nat} {x : α}, l[j]? = some x → ((l.take (j + 1)).map f).sum = ((l.take j).map f).sum + f x := fun {l j x} h => by
  rw [List.take_add_one, h]
  simp
theorem sum_take_le {α : Type} {f : α → Nat} (l : List α) (j : Nat) : ((l.take j).map f).sum ≤ (l.map f).sum := by
  conv => rhs; rw [← List.take_append_drop j l, List.map_append, List.sum_append]
  omega
set_option maxRecDepth 100000 in
set_option maxHeartbeats 4000000 in
theorem fresh_succ {T : RT} {h : Nat}
    (ih : ∀ (u : PT h) (w : World) (F G : Nat → Prop), (∀ b, F b → b < w.heap.size) → IsT w F T → (∀ b, G b → b < w.heap.size) → IsN w G h u → OkT h u → 1 ≤ size h u → (ents h u).length ≤ 900000 → Calls Tryz.prog 22 #[rootV T, ptr h u] w fun e w' => e = .returned (.int .i64 (freshN (hasR T) h u)) ∧ Ext w w')
    (ok : OkR T) (hc : (entsT T).length ≤ 900000) {u : PT (h + 1)} {w : World} {F G : Nat → Prop} (hF : ∀ b, F b → b < w.heap.size) (hT : IsT w F T) (hG : ∀ b, G b → b < w.heap.size) (hu : IsN w G (h + 1) u) (oku : OkT (h + 1) u) (hcu : (ents (h + 1) u).length ≤ 900000) :
    Calls Tryz.prog 22 #[rootV T, ptr (h + 1) u] w fun e w' => e = .returned (.int .i64 (freshN (hasR T) (h + 1) u)) ∧ Ext w w' := by
  have hsz : 1 ≤ size (h + 1) u := by have := oku.1; show 1 ≤ u.2.length; omega
  have hlt := height_lt (h + 1) u oku hsz
  have hb1 := freshN_le (has := hasR T) (h + 1) u oku hsz
  have hbs : 1 + (u.2.map (freshN (hasR T) h)).sum ≤ 900001 * 900000 + 1 := by
    have hk : ∀ (l : List (PT h)), (∀ x ∈ l, freshN (hasR T) h x ≤ (h + 1) * (ents h x).length) → (l.map (freshN (hasR T) h)).sum ≤ (h + 1) * (l.flatMap (ents h)).length := fun l => by
      induction l with
      | nil => intro _; exact Nat.zero_le _
      | cons a l ih =>
        intro hl
        have h1 := hl a (List.mem_cons_self ..)
        have h2 := ih fun x hx => hl x (List.mem_cons_of_mem _ hx)
        rw [List.map_cons, List.sum_cons, List.flatMap_cons, List.length_append, Nat.mul_add]
        omega
    have h1 := hk u.2 fun x hx => freshN_le h x (oku.2.2 x hx).1 (by have := (oku.2.2 x hx).2; omega)
    have h2 : (h + 1) * (u.2.flatMap (ents h)).length ≤ 900001 * 900000 := Nat.mul_le_mul (by omega) hcu
    omega
  have hhas := has_any hF hT ok hc hG hu
  obtain ⟨p, hp⟩ := rootV_ptr T
  rw [hp] at hhas
  have hlen8 := oku.2.1
  have hlen2 := oku.1
  have hks : ∀ x ∈ u.2, IsN w G h x := hu.2.choose_spec.2.2
  have hkl : ∀ x ∈ u.2, (ents h x).length ≤ 900000 := fun x hx => by
    obtain ⟨i, hi⟩ := List.getElem?_of_mem hx
    refine Nat.le_trans ?_ hcu
    show _ ≤ (u.2.flatMap (ents h)).length
    rw [take_mid hi]; simp only [List.flatMap_append, List.flatMap_cons, List.length_append]; omega
  have HIH := Lib.hid (fun (kid : PT h) (hk : kid ∈ u.2) (W : World) (hW : Ext w W) => ih kid W F G (fun b hb => Nat.lt_of_lt_of_le (hF b hb) hW.size) (hT.agree (hW.agree hF)) (fun b hb => Nat.lt_of_lt_of_le (hG b hb) hW.size) ((hks kid hk).agree (hW.agree hG)) (oku.2.2 kid hk).1 (by have := (oku.2.2 kid hk).2; omega) (hkl kid hk))
  have HU := Lib.hid (fun (W : World) (hW : Ext w W) => hu.agree (hW.agree hG))
  have HBS := Lib.hid hbs
  rw [hp] at HIH ⊢
  clear hF hT hG hu hks hkl ih hb1 hlt hbs hp oku hsz hcu hc ok
  go_enter Tryz.func22, Tryz.ntmps22
  go_wp2_with fail
  refine hhas.mono ?_
  rintro e w1 ⟨rfl, hx1⟩
  have HX1 := Lib.hid hx1
  have hku := kids_any (HU.out w1 hx1) (by omega)
  cases hhu : hasR T (h + 1) u with
  | true =>
    clear hx1 hku hhas
    go_wp2_with fail
    go_ret
    exact ⟨by simp [freshN, hhu], HX1.out⟩
  | false =>
    clear hx1 hhas
    go_wp2_with fail
    refine hku.mono ?_
    rintro e w2 ⟨s', rfl, hown, hx2⟩
    have hrd : Rd w2 (Lt w2.heap.size) 1 s' u.2.length (ptrs h u.2) := (Rd.of_own hown).mono fun i hi => hi.2
    obtain ⟨g, cap, rfl, hbg, hnc, hcm, hfil⟩ := own_block hown (by omega)
    have HRD := Lib.hid hrd
    have HX2 := Lib.hid (HX1.out.trans hx2)
    have hw0 : w2.heap.size = w2.heap.size := rfl
    clear hown hrd hfil hx2 hku
    go_wp2_with fail
    go_loopw [5, 18] (fun v i wr => ∃ j n : Nat, j ≤ u.2.length ∧ i = .int .i64 j ∧ v = .int .i64 (n : Int) ∧ n = 1 + ((u.2.take j).map (freshN (hasR T) h)).sum ∧ Ext w2 wr) (fun _ i _ => u.2.length - (intOf i).toNat)
    case atStart => exact ⟨0, 1, Nat.zero_le _, rfl, rfl, rfl, Ext.refl _⟩
    case round =>
      obtain ⟨j, n, hj, rfl, rfl, hn, hX⟩ := hrel
      have HN := Lib.hid hn
      have HX := Lib.hid hX
      have hle := sum_take_le (f := freshN (hasR T) h) u.2 j
      have HLE := Lib.hid hle
      by_cases hlt : j < u.2.length
      · obtain ⟨kid, hkid⟩ : ∃ kid, u.2[j]? = some kid := ⟨_, List.getElem?_eq_getElem hlt⟩
        obtain ⟨b, o, hba, hbl, -, -, hbc⟩ := (HRD.out.agree (hX.agree fun _ h => h)).ptr_at hkid
        obtain ⟨rfl, rfl⟩ : g = b ∧ 0 = o := by simpa using hba
        have kc : wr.cell? ⟨g, j, none⟩ = some (ptr h kid) := by simpa using hbc
        have hjl : (j : Int) < (u.2.length : Int) := by omega
        have hic := HIH.out kid (List.mem_of_getElem? hkid) wr (HX2.out.trans hX)
        have hst := sum_take (f := freshN (hasR T) h) hkid
        have hle1 := sum_take_le (f := freshN (hasR T) h) u.2 (j + 1)
        have hbs := HBS.out
        obtain ⟨fk, hfk⟩ : ∃ fk, freshN (hasR T) h kid = fk := ⟨_, rfl⟩
        rw [hfk] at hic hst
        have hn' : n + fk = 1 + ((u.2.take (j + 1)).map (freshN (hasR T) h)).sum := by omega
        have hww : IntKind.i64.wrap ((n : Int) + (fk : Int)) = (n : Int) + (fk : Int) := by
          rw [IntKind.wrap_i64]; omega
        have HN' := Lib.hid hn'
        clear hX hkid hba hbc hle hst hle1 hbs hn hn' hfk
        go_wp2_with fail
        refine hic.mono ?_
        rintro e w3 ⟨rfl, hx3⟩
        have HX3 := Lib.hid hx3
        clear hx3 hic
        go_wp2_with fail
        go_roundw
        case rel => exact ⟨j + 1, n + fk, hlt, by go_num, by go_num, HN'.out, HX.out.trans HX3.out⟩
        case measure => simp [intOf]; omega
      · obtain rfl : j = u.2.length := by omega
        clear hX hn hle
        go_wp2_with fail
        go_ret
        refine ⟨?_, HX2.out.trans HX.out⟩
        have := HN.out
        rw [List.take_length] at this
        rw [this]
        simp [freshN, hhu]
theorem fresh_zero {T : RT} (ok : OkR T) (hc : (entsT T).length ≤ 900000) {u : PT 0} {w : World} {F G : Nat → Prop} (hF : ∀ b, F b → b < w.heap.size) (hT : IsT w F T) (hG : ∀ b, G b → b < w.heap.size) (hu : IsN w G 0 u) :
    Calls Tryz.prog 22 #[rootV T, ptr 0 u] w fun e w' => e = .returned (.int .i64 (freshN (hasR T) 0 u)) ∧ Ext w w' := by
  have hhas := has_any hF hT ok hc hG hu
  obtain ⟨p, hp⟩ := rootV_ptr T
  rw [hp] at hhas ⊢
  have HU := Lib.hid (fun (W : World) (hW : Ext w W) => hu.agree (hW.agree hG))
  clear hF hT hG hu hp hc ok
  go_enter Tryz.func22, Tryz.ntmps22
  go_wp2_with fail
  refine hhas.mono ?_
  rintro e w1 ⟨rfl, hx1⟩
  have HX1 := Lib.hid hx1
  have hku := kids_leaf (HU.out w1 hx1)
  cases hhu : hasR T 0 u with
  | true =>
    clear hx1 hku hhas
    go_wp2_with fail
    go_ret
    exact ⟨by simp [freshN, hhu], HX1.out⟩
  | false =>
    clear hx1 hhas
    go_wp2_with fail
    refine hku.mono ?_
    rintro e w2 ⟨rfl, rfl⟩
    go_wp2_with fail
    go_loopw [5, 18] (fun v i wr => v = .int .i64 1 ∧ i = .int .i64 0 ∧ wr = w1) (fun _ _ _ => 0)
    case atStart => exact ⟨rfl, rfl, rfl⟩
    case round =>
      obtain ⟨rfl, rfl, rfl⟩ := hrel
      go_wp2_with fail
      go_ret
      exact ⟨by simp [freshN, hhu], HX1.out⟩
theorem fresh_any {T : RT} (ok : OkR T) (hc : (entsT T).length ≤ 900000) : ∀ (h : Nat) (u : PT h) (w : World) (F G : Nat → Prop), (∀ b, F b → b < w.heap.size) → IsT w F T → (∀ b, G b → b < w.heap.size) → IsN w G h u → OkT h u → 1 ≤ size h u → (ents h u).length ≤ 900000 → Calls Tryz.prog 22 #[rootV T, ptr h u] w fun e w' => e = .returned (.int .i64 (freshN (hasR T) h u)) ∧ Ext w w'
  | 0, u, w, F, G, hF, hT, hG, hu, _, _, _ => fresh_zero ok hc hF hT hG hu
  | h + 1, u, w, F, G, hF, hT, hG, hu, oku, _, hcu => fresh_succ (fresh_any ok hc h) ok hc hF hT hG hu oku hcu
theorem fresh_root {T T' : RT} {w : World} {F G : Nat → Prop} (ok : OkR T) (hc : (entsT T).length ≤ 900000) (hF : ∀ b, F b → b < w.heap.size) (hT : IsT w F T) (ok' : OkR T') (hc' : (entsT T').length ≤ 900000) (hG : ∀ b, G b → b < w.heap.size) (hT' : IsT w G T') :
    Calls Tryz.prog 22 #[rootV T, rootV T'] w fun e w' => e = .returned (.int .i64 (freshR T T')) ∧ Ext w w' := by
  match T', ok', hc', hT' with
  | none, _, _, _ => exact (fresh_nil w _).mono fun e w' ⟨h1, h2⟩ => ⟨h1, h2 ▸ Ext.refl _⟩
  | some ⟨h, u⟩, ok', hc', hT' => exact fresh_any ok hc h u w F G hF hT hG hT' ok'.1 ok'.2.1 hc'
theorem treeFresh_any {T T' : RT} {w : World} {F G : Nat → Prop} {p q : Option Addr} (hp : rootV T = .pointer p) (hq : rootV T' = .pointer q) (ok : OkR T) (hc : (entsT T).length ≤ 900000) (hF : ∀ b, F b → b < w.heap.size) (hT : IsT w F T) (ok' : OkR T') (hc' : (entsT T').length ≤ 900000) (hG : ∀ b, G b → b < w.heap.size) (hT' : IsT w G T') :
    Calls Tryz.prog 9 #[.agg #[.pointer p], .agg #[.pointer q]] w fun e w' => e = .returned (.int .i64 (freshR T T')) ∧ Ext w w' := by
  have hx := ((Ext.refl w).alloc #[.pointer p] 27).alloc #[.pointer q] 27
  have HC := Lib.hid (fun (W : World) (hW : Ext w W) => fresh_root ok hc (fun b hb => Nat.lt_of_lt_of_le (hF b hb) hW.size) (hT.agree (hW.agree hF)) ok' hc' (fun b hb => Nat.lt_of_lt_of_le (hG b hb) hW.size) (hT'.agree (hW.agree hG)))
  rw [hp, hq] at HC
  have HX := Lib.hid hx
  clear hx hp hq ok hc hF hT ok' hc' hG hT'
  go_enter Tryz.func9, Tryz.ntmps9
  go_wp2_with fail
  refine (HC.out _ HX.out).mono ?_
  rintro e w1 ⟨rfl, hx1⟩
  go_wp2_with fail
  go_ret
  exact ⟨rfl, HX.out.trans hx1⟩
theorem AllA.mono {p q : Nat → Prop} (hq : ∀ b, p b → q b) : ∀ {h : Nat} {t : PT h}, AllA p h t → AllA q h t
  | 0, _, h1 => hq _ h1
  | _ + 1, _, ⟨h1, h4⟩ => ⟨hq _ h1, fun k hk => (h4 k hk).mono hq⟩
theorem DelR.addr {B : Nat} {k : ByteArray} : ∀ {h : Nat} {t u : PT h}, DelR B k h t u → B ≤ Proofs.YtpapoalgocmlaaaGreat.addr h u
  | 0, _, _, h => h.2
  | _ + 1, _, _, h => h.2
theorem PairR.addr {B : Nat} : ∀ {h : Nat} {l r : PT h} {ts : List (PT h)}, PairR B h l r ts → ∀ u ∈ ts, B ≤ Proofs.YtpapoalgocmlaaaGreat.addr h u
  | 0, _, _, _, h => h.2
  | _ + 1, _, _, _, h => h.2
theorem PairR.ne {B : Nat} : ∀ {h : Nat} {l r : PT h} {ts : List (PT h)}, PairR B h l r ts → ts ≠ [] := fun {h l r ts} hp e => by
  subst e
  have := hp.len
  simp at this
theorem DelT.root {B : Nat} {k : ByteArray} {T : RT} {h : Nat} {u : PT h} (hd : DelT B k T (some ⟨h, u⟩)) (ok : OkR T) : (getE (entsT T) k = Option.none ∧ T = some ⟨h, u⟩) ∨ B ≤ addr h u := by
  cases hd with
  | no h => exact .inl ⟨h, rfl⟩
  | same hg hd hp h2 => exact .inr hd.addr
  | down hg hd =>
    rename_i t
    obtain ⟨kid, kid', hk, hr, ⟨h1, h2⟩ | ⟨h1, l, r, ts, h2, h3, h4, h5⟩⟩ := hd
    · have := congrArg List.length h2
      have ok2 : 2 ≤ t.2.length := ok.1.1
      simp at this; omega
    · have hts := h4.ne
      have hm : ∀ x ∈ ts, x ∈ [u] := fun x hx => by rw [h5]; simp [hx]
      obtain ⟨x, hx⟩ := List.exists_mem_of_ne_nil ts hts
      have := List.mem_singleton.1 (hm x hx)
      exact .inr (this ▸ h4.addr x hx)
end Go.Proofs.YtpapoalgocmlaaaGreat
