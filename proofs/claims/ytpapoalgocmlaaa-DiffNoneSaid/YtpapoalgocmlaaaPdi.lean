/- What the theorem needs of the texts DiffO, DiffV, Count: no condition of its own. -/
import Derived.Test.YtpapoalgocmlaaaPda
import Derived.Test.YtpapoalgocmlaaaPdb
import Derived.Test.YtpapoalgocmlaaaPdc
import Derived.Test.YtpapoalgocmlaaaPdd
import Derived.Test.YtpapoalgocmlaaaPde
import Derived.Test.YtpapoalgocmlaaaPdf
import Derived.Test.YtpapoalgocmlaaaPdg
import Derived.Test.YtpapoalgocmlaaaPdh
namespace Go.Proofs.Ytpapoalgocmlaaa
open Go.RowKit
set_option linter.unusedVariables false
abbrev SubA (c n : AN) : Prop := Sub c.1 c.2 n.1 n.2
def Below9 (c : AN) (x : CurS) : Prop := ∃ n ∈ x.ns, SubA c n
theorem sub_same9 {k h : Nat} {u : PT k} {t : PT h} (hs : Sub k u h t) (e : h ≤ k) : (⟨k, u⟩ : AN) = ⟨h, t⟩ := by
  cases h with
  | zero => exact hs
  | succ h =>
    rcases hs with e1 | ⟨kid, hm, hs⟩
    · exact e1
    · have := hs.le; omega
theorem last_of9 {es : List Ent} (h : es ≠ []) : ∃ e ∈ es, lastK es = e.1 := lastK_mem (List.length_pos_iff.2 h)
theorem first_of9 {es : List Ent} (h : es ≠ []) : ∃ e ∈ es, firstK es = e.1 := firstK_mem (List.length_pos_iff.2 h)
theorem below_cont {c : AN} {ns : List AN} {n : AN} (hn : n ∈ ns) (hs : SubA c n) : ∀ e ∈ c.es, e ∈ contE ns := fun e he => List.mem_flatMap.2 ⟨n, List.mem_reverse.2 hn, Sub.ents hs e he⟩
theorem cont_node {y : CurS} {b : AN} (h : y.node = some b) : y.cont = b.es ++ contE y.ns.dropLast ∧ y.last = lastK b.es ∧ y.first = firstK b.es := by
  obtain ⟨h1, h2, h3⟩ := y.node_some h
  obtain ⟨es, ns, o⟩ := y
  dsimp only at h1 h2 h3
  subst h1
  refine ⟨?_, by simp [CurS.last, h3], by simp [CurS.first, h3]⟩
  show [] ++ contE ns = _
  rw [List.nil_append]
  conv => lhs; rw [h2]
  exact contE_snoc _ _
theorem first_le9 {y : CurS} (sy : Sorted y.cont) (ok : y.ok) (hng : ¬ y.gone) {e : Ent} (he : e ∈ y.cont) : klt e.1 y.first = false := by
  obtain ⟨f, l, h1, h2⟩ := y.first_cont ok hng
  rw [h1] at he sy
  rw [h2]
  rcases List.mem_cons.1 he with rfl | he
  · exact klt_irrefl _
  · exact klt_asymm ((List.pairwise_cons.1 sy).1 e he)
theorem ahead9 {y : CurS} (sy : Sorted y.cont) (ok : y.ok) {c : AN} (hc : c.ok) (hlt : klt (lastK c.es) y.first = true) (hb : Below9 c y) : False := by
  obtain ⟨n, hn, hs⟩ := hb
  have hng : ¬ y.gone := fun h => by rw [h.2] at hn; cases hn
  obtain ⟨e, he, h1⟩ := last_of9 (AN.ne hc)
  have := first_le9 sy ok hng (List.mem_append.2 (.inr (below_cont hn hs e he)))
  rw [← h1, hlt] at this
  cases this
theorem past9 {y : CurS} (sy : Sorted y.cont) (ok : y.ok) {c : AN} (hc : c.ok) (hle : klt y.last (firstK c.es) = false) (hb : Below9 c y) : ∃ b, y.node = some b ∧ SubA c b := by
  obtain ⟨n, hn, hs⟩ := hb
  have hng : ¬ y.gone := fun h => by rw [h.2] at hn; cases hn
  obtain ⟨e, he, h1⟩ := first_of9 (AN.ne hc)
  cases hy : y.node with
  | none =>
    obtain ⟨f, fs, h2⟩ := CurS.node_none hy hng
    obtain ⟨h3, -, h4, -⟩ := y.cont_entry h2
    exfalso
    rw [h3] at sy
    have := (List.pairwise_cons.1 sy).1 e (List.mem_append.2 (.inr (below_cont hn hs e he)))
    rw [← h4, ← h1, hle] at this
    cases this
  | some b =>
    obtain ⟨-, h2, h3⟩ := y.node_some hy
    obtain ⟨h4, h5, -⟩ := cont_node hy
    refine ⟨b, rfl, ?_⟩
    rw [h2] at hn
    rcases List.mem_append.1 hn with hn | hn
    · exfalso
      obtain ⟨f, hf, h6⟩ := last_of9 (AN.ne (ok b (List.mem_of_getLast? h3)))
      rw [h4] at sy
      have := (sorted_app sy).2.2 f hf e (below_cont hn hs e he)
      rw [← h6, ← h5, ← h1, hle] at this
      cases this
    · obtain rfl := List.mem_singleton.1 hn
      exact hs
theorem below_skip {x : CurS} (sx : Sorted x.cont) {a : AN} (hx : x.node = some a) {c : AN} (hc : c.ok) : Below9 c x.skip ↔ Below9 c x ∧ ¬ SubA c a := by
  obtain ⟨-, h2, h3⟩ := x.node_some hx
  obtain ⟨h4, -, -⟩ := cont_node hx
  constructor
  · rintro ⟨n, hn, hs⟩
    refine ⟨⟨n, List.dropLast_subset _ hn, hs⟩, fun hca => ?_⟩
    obtain ⟨e, he, -⟩ := first_of9 (AN.ne hc)
    rw [h4] at sx
    have := (sorted_app sx).2.2 e (Sub.ents hca e he) e (below_cont hn hs e he)
    rw [klt_irrefl] at this
    cases this
  · rintro ⟨⟨n, hn, hs⟩, hca⟩
    rw [h2] at hn
    rcases List.mem_append.1 hn with hn | hn
    · exact ⟨n, hn, hs⟩
    · obtain rfl := List.mem_singleton.1 hn
      exact absurd hs hca
theorem below_open {x : CurS} {a : AN} (hx : x.node = some a) {c : AN} : Below9 c x ↔ c = a ∨ Below9 c x.open_ := by
  obtain ⟨-, h2, h3⟩ := x.node_some hx
  obtain ⟨h, t⟩ := a
  cases h with
  | zero =>
    have ho : x.open_.ns = x.ns.dropLast := by simp only [CurS.open_, h3]
    constructor
    · rintro ⟨n, hn, hs⟩
      rw [h2] at hn
      rcases List.mem_append.1 hn with hn | hn
      · exact .inr ⟨n, by rw [ho]; exact hn, hs⟩
      · obtain rfl := List.mem_singleton.1 hn
        exact .inl hs
    · rintro (rfl | ⟨n, hn, hs⟩)
      · exact ⟨_, List.mem_of_getLast? h3, Sub.refl _⟩
      · rw [ho] at hn
        exact ⟨n, List.dropLast_subset _ hn, hs⟩
  | succ h =>
    have ho : x.open_.ns = x.ns.dropLast ++ (kidsA h t).reverse := by simp only [CurS.open_, h3]
    constructor
    · rintro ⟨n, hn, hs⟩
      rw [h2] at hn
      rcases List.mem_append.1 hn with hn | hn
      · exact .inr ⟨n, by rw [ho]; exact List.mem_append.2 (.inl hn), hs⟩
      · obtain rfl := List.mem_singleton.1 hn
        rcases hs with e | ⟨kid, hm, hs⟩
        · exact .inl e
        · exact .inr ⟨⟨h, kid⟩, by rw [ho]; exact List.mem_append.2 (.inr (List.mem_reverse.2 (List.mem_map.2 ⟨kid, hm, rfl⟩))), hs⟩
    · rintro (rfl | ⟨n, hn, hs⟩)
      · exact ⟨_, List.mem_of_getLast? h3, Sub.refl _⟩
      · rw [ho] at hn
        rcases List.mem_append.1 hn with hn | hn
        · exact ⟨n, List.dropLast_subset _ hn, hs⟩
        · obtain ⟨kid, hm, rfl⟩ := List.mem_map.1 (List.mem_reverse.1 hn)
          exact ⟨_, List.mem_of_getLast? h3, .inr ⟨kid, hm, hs⟩⟩
def pot9 (has : (k : Nat) → PT k → Bool) (x : CurS) : Nat := x.o + (x.ns.map fun a => freshN has a.1 a.2).sum
theorem pot_open {has : (k : Nat) → PT k → Bool} {x : CurS} {a : AN} (hx : x.node = some a) (hn : has a.1 a.2 = false) : pot9 has x.open_ = pot9 has x := by
  obtain ⟨-, h2, h3⟩ := x.node_some hx
  have e : (x.ns.map fun a => freshN has a.1 a.2).sum = (x.ns.dropLast.map fun a => freshN has a.1 a.2).sum + freshN has a.1 a.2 := by
    conv => lhs; rw [h2]
    simp
  obtain ⟨h, t⟩ := a
  cases h with
  | zero =>
    have e1 : freshN has 0 t = 1 := by simp [freshN]; exact hn
    simp only [CurS.open_, h3, pot9]
    dsimp only at e
    omega
  | succ h =>
    have e1 : freshN has (h + 1) t = 1 + (t.2.map (freshN has h)).sum := by
      have hn' : has (h + 1) t = false := hn
      simp [freshN, hn']
    have e2 : ((kidsA h t).reverse.map fun a => freshN has a.1 a.2).sum = (t.2.map (freshN has h)).sum := by
      rw [List.map_reverse, List.sum_reverse, kidsA, List.map_map]; rfl
    simp only [CurS.open_, h3, pot9, List.map_append, List.sum_append, e2]
    dsimp only at e
    omega
theorem pot_skip {has : (k : Nat) → PT k → Bool} {x : CurS} {a : AN} (hx : x.node = some a) : pot9 has x.skip ≤ pot9 has x := by
  obtain ⟨-, h2, h3⟩ := x.node_some hx
  have e : (x.ns.map fun a => freshN has a.1 a.2).sum = (x.ns.dropLast.map fun a => freshN has a.1 a.2).sum + freshN has a.1 a.2 := by
    conv => lhs; rw [h2]
    simp
  simp only [CurS.skip, pot9]
  omega
theorem open_ns {x : CurS} {a : AN} (hx : x.node = some a) {T : AN → Prop} (hT : ∀ h t kid, T ⟨h + 1, t⟩ → kid ∈ t.2 → T ⟨h, kid⟩) (tx : ∀ c ∈ x.ns, T c) : ∀ c ∈ x.open_.ns, T c := by
  obtain ⟨-, h2, h3⟩ := x.node_some hx
  obtain ⟨h, t⟩ := a
  intro c hc
  cases h with
  | zero =>
    simp only [CurS.open_, h3] at hc
    exact tx c (List.dropLast_subset _ hc)
  | succ h =>
    simp only [CurS.open_, h3] at hc
    rcases List.mem_append.1 hc with hc | hc
    · exact tx c (List.dropLast_subset _ hc)
    · obtain ⟨kid, hm, rfl⟩ := List.mem_map.1 (List.mem_reverse.1 hc)
      exact hT h t kid (tx _ (List.mem_of_getLast? h3)) hm
structure Inv9 (T U : AN → Prop) (x y : CurS) : Prop where
  sx : Sorted x.cont
  sy : Sorted y.cont
  okx : x.ok
  oky : y.ok
  tx : ∀ c ∈ x.ns, T c
  ty : ∀ c ∈ y.ns, U c
  both : ∀ c, c.ok → T c → U c → (Below9 c x ↔ Below9 c y)
section
variable {T U : AN → Prop} {x y x' y' : CurS} {l : List Chg}
theorem Inv9.newX (h : Inv9 T U x y) {a : AN} (hx : x.node = some a) (hc : y.gone ∨ klt x.last y.first = true ∨ (klt x.last y.first = false ∧ klt y.last x.first = false ∧ ¬ y.gone ∧ y.height < a.1)) : ¬ U a := by
  intro hU
  have hm := List.mem_of_getLast? (x.node_some hx).2.2
  have oka := h.okx a hm
  have hb : Below9 a y := (h.both a oka (h.tx a hm) hU).1 ⟨a, hm, Sub.refl _⟩
  obtain ⟨-, h5, h6⟩ := cont_node hx
  rcases hc with hg | hlt | ⟨-, hr, hng, hh⟩
  · obtain ⟨n, hn, -⟩ := hb
    rw [hg.2] at hn; cases hn
  · rw [h5] at hlt
    exact ahead9 h.sy h.oky oka hlt hb
  · rw [h6] at hr
    obtain ⟨b, hy, hs⟩ := past9 h.sy h.oky oka hr hb
    rw [y.height_node hy] at hh
    have := Sub.le hs
    omega
theorem Inv9.newY (h : Inv9 T U x y) {b : AN} (hy : y.node = some b) (hne : ¬ sameN x y) (hc : x.gone ∨ klt y.last x.first = true ∨ (klt x.last y.first = false ∧ klt y.last x.first = false ∧ ¬ x.gone ∧ x.height ≤ b.1)) : ¬ T b := by
  intro hU
  have hm := List.mem_of_getLast? (y.node_some hy).2.2
  have okb := h.oky b hm
  have hb : Below9 b x := (h.both b okb hU (h.ty b hm)).2 ⟨b, hm, Sub.refl _⟩
  obtain ⟨-, h5, h6⟩ := cont_node hy
  rcases hc with hg | hlt | ⟨hr, -, hng, hh⟩
  · obtain ⟨n, hn, -⟩ := hb
    rw [hg.2] at hn; cases hn
  · rw [h5] at hlt
    exact ahead9 h.sx h.okx okb hlt hb
  · rw [h6] at hr
    obtain ⟨a, hx, hs⟩ := past9 h.sx h.okx okb hr hb
    rw [x.height_node hx] at hh
    have e : b = a := sub_same9 hs (by omega)
    exact hne ⟨a, b, hx, hy, by rw [e]⟩
variable (hT : ∀ h t kid, T ⟨h + 1, t⟩ → kid ∈ t.2 → T ⟨h, kid⟩) (hU : ∀ h t kid, U ⟨h + 1, t⟩ → kid ∈ t.2 → U ⟨h, kid⟩)
include hT hU in
theorem Inv9.step (h : Inv9 T U x y) (hs : Step x y x' y' l) : Inv9 T U x' y' := by
  obtain ⟨ox, oy⟩ := hs.ok h.okx h.oky
  have htl : ∀ {e : Ent} {es : List Ent} {z : CurS}, z.es = e :: es → Sorted z.cont → Sorted z.take.cont := fun hz s => by
    rw [(CurS.cont_entry hz).1] at s
    exact (List.pairwise_cons.1 s).2
  cases hs with
  | skip h1 h2 =>
    refine ⟨?_, ?_, ox, oy, fun c hc => h.tx c (List.dropLast_subset _ hc), fun c hc => h.ty c (List.dropLast_subset _ hc), fun c okc h3 h4 => ?_⟩
    · have := h.sx; rw [(x.cont_open h1).2] at this; exact (sorted_app this).2.1
    · have := h.sy; rw [(y.cont_open h2).2] at this; exact (sorted_app this).2.1
    · rw [below_skip h.sx h1 okc, below_skip h.sy h2 okc, h.both c okc h3 h4]
  | openX h1 hne hc =>
    have hn := h.newX h1 hc
    refine ⟨by rw [(x.cont_open h1).1]; exact h.sx, h.sy, ox, oy, open_ns h1 hT h.tx, h.ty, fun c okc h3 h4 => ?_⟩
    rw [← h.both c okc h3 h4, below_open h1]
    exact ⟨.inr, fun e => e.elim (fun e => absurd (e ▸ h4) hn) id⟩
  | openY h1 hne hc =>
    have hn := h.newY h1 hne hc
    refine ⟨h.sx, by rw [(y.cont_open h1).1]; exact h.sy, ox, oy, h.tx, open_ns h1 hU h.ty, fun c okc h3 h4 => ?_⟩
    rw [h.both c okc h3 h4, below_open h1]
    exact ⟨fun e => e.elim (fun e => absurd (e ▸ h3) hn) id, .inr⟩
  | gone h1 hc => exact ⟨htl h1 h.sx, h.sy, ox, oy, h.tx, h.ty, h.both⟩
  | come h1 hc => exact ⟨h.sx, htl h1 h.sy, ox, oy, h.tx, h.ty, h.both⟩
  | both h1 h2 hk => exact ⟨htl h1 h.sx, htl h2 h.sy, ox, oy, h.tx, h.ty, h.both⟩
variable {hasT hasU : (k : Nat) → PT k → Bool} (dT : ∀ c, U c → hasT c.1 c.2 = true → T c) (dU : ∀ c, T c → hasU c.1 c.2 = true → U c)
include dT dU in
theorem Inv9.pot (h : Inv9 T U x y) (hs : Step x y x' y' l) : pot9 hasU x' + pot9 hasT y' ≤ pot9 hasU x + pot9 hasT y := by
  cases hs with
  | skip h1 h2 => have := pot_skip (has := hasU) h1; have := pot_skip (has := hasT) h2; omega
  | openX h1 hne hc =>
    rename_i a
    have hn := h.newX h1 hc
    have := pot_open (has := hasU) h1 (by
      cases e : hasU a.1 a.2 with
      | false => rfl
      | true => exact absurd (dU a (h.tx a (List.mem_of_getLast? (x.node_some h1).2.2)) e) hn)
    omega
  | openY h1 hne hc =>
    rename_i b
    have hn := h.newY h1 hne hc
    have := pot_open (has := hasT) h1 (by
      cases e : hasT b.1 b.2 with
      | false => rfl
      | true => exact absurd (dT b (h.ty b (List.mem_of_getLast? (y.node_some h1).2.2)) e) hn)
    omega
  | gone h1 hc => exact Nat.le_refl _
  | come h1 hc => exact Nat.le_refl _
  | both h1 h2 hk => exact Nat.le_refl _
include hT hU dT dU in
theorem Run.pot {x0 y0 : CurS} (h0 : Inv9 T U x0 y0) (h : Run x0 y0 x y l) : Inv9 T U x y ∧ pot9 hasU x + pot9 hasT y ≤ pot9 hasU x0 + pot9 hasT y0 := by
  induction h with
  | start => exact ⟨h0, Nat.le_refl _⟩
  | step hr hs ih => exact ⟨ih.1.step hT hU hs, Nat.le_trans (ih.1.pot dT dU hs) ih.2⟩
end
def NodeOf (T : RT) (c : AN) : Prop := ∃ r, T = some r ∧ SubA c r
theorem NodeOf.kid {T : RT} {h : Nat} {t : PT (h + 1)} {kid : PT h} (hn : NodeOf T ⟨h + 1, t⟩) (hk : kid ∈ t.2) : NodeOf T ⟨h, kid⟩ := by
  obtain ⟨r, rfl, hs⟩ := hn
  exact ⟨r, rfl, Sub.kid hk hs⟩
theorem sub_in {w : World} {F : Nat → Prop} {k : Nat} {u : PT k} : ∀ {h : Nat} {t : PT h}, Sub k u h t → IsN w F h t → IsN w F k u
  | 0, t, hs, hn => by cases hs; exact hn
  | h + 1, t, hs, hn => by
    rcases hs with e | ⟨kid, hm, hs⟩
    · cases e; exact hn
    · exact sub_in hs (hn.2.choose_spec.2.2 kid hm)
theorem all_addr {p : Nat → Prop} : ∀ {h : Nat} {t : PT h}, (∀ k u, Sub k u h t → p (addr k u)) → AllA p h t
  | 0, t, hp => hp 0 t (Sub.refl t)
  | h + 1, t, hp => ⟨hp _ t (Sub.refl t), fun kid hm => all_addr fun k u hs => hp k u (.inr ⟨kid, hm, hs⟩)⟩
theorem has_node {w : World} {F F' : Nat → Prop} {T U : RT} (hT : IsT w F T) (hU : IsT w F' U) (ok : OkR T) {c : AN} (hc : NodeOf U c) (hh : hasR T c.1 c.2 = true) : NodeOf T c := by
  match T, hT, ok, hh with
  | none, _, _, hh => cases hh
  | some ⟨h, t⟩, hT, ok, hh =>
    obtain ⟨r, rfl, hs⟩ := hc
    simp only [hasR, decide_eq_true_eq] at hh
    have hfi := find_in (p := fun b => ∃ k u, Sub k u h t ∧ addr k u = b) (key := firstK (ents c.1 c.2)) (k := c.1) (all_addr fun k u hs => ⟨k, u, hs, rfl⟩) ok.1
    obtain ⟨k, u, hsu, ha⟩ := hfi
    have h1 : IsN w F k u := sub_in hsu hT
    have h2 : IsN w F' c.1 c.2 := sub_in hs hU
    have e : (⟨k, u⟩ : AN) = c := node_same (a := ⟨k, u⟩) (b := c) h1 h2 (ha.trans hh)
    subst e
    exact ⟨_, rfl, hsu⟩
theorem run_opened {w : World} {F F' : Nat → Prop} {T U : RT} (hT : IsT w F T) (hU : IsT w F' U) (ok : OkR T) (ok' : OkR U) {x y : CurS} {l : List Chg} (h : Run (startS T) (startS U) x y l) : x.o + y.o ≤ freshR U T + freshR T U := by
  have hst : ∀ {V : RT}, ∀ c ∈ (startS V).ns, NodeOf V c := fun {V} c hc => by
    cases V with
    | none => cases hc
    | some r =>
      obtain rfl : c = r := by simpa [startS] using hc
      exact ⟨c, rfl, Sub.refl _⟩
  have hbl : ∀ {V : RT} {c : AN}, NodeOf V c → Below9 c (startS V) := fun {V c} hc => by
    obtain ⟨r, rfl, hs⟩ := hc
    exact ⟨r, by simp [startS], hs⟩
  have hpt : ∀ {V W : RT}, pot9 (hasR W) (startS V) = freshR W V := fun {V W} => by
    cases V with
    | none => rfl
    | some r => simp [pot9, startS, freshR]
  have h0 : Inv9 (NodeOf T) (NodeOf U) (startS T) (startS U) := ⟨by rw [startS_cont]; exact ok.sorted, by rw [startS_cont]; exact ok'.sorted, startS_ok ok, startS_ok ok', hst, hst, fun c _ h1 h2 => ⟨fun _ => hbl h2, fun _ => hbl h1⟩⟩
  have := (h.pot (fun h t kid => NodeOf.kid) (fun h t kid => NodeOf.kid) (hasT := hasR T) (hasU := hasR U) (fun c h1 h2 => has_node hT hU ok h1 h2) (fun c h1 h2 => has_node hU hT ok' h1 h2) h0).2
  rw [hpt, hpt] at this
  simp only [pot9] at this
  omega
end Go.Proofs.Ytpapoalgocmlaaa
namespace Go.Proofs.Ytpapoalgocmlaaa
open Go.RowKit Go.Shelf
set_option linter.unusedVariables false
set_option linter.unusedSimpArgs false
attribute [local go_sem] Oper.semAt_some
def JN (N : Nat) (pre : List CE) (C D : Nat → Prop) (W : World) : Prop := Blk W N 3 #[.int .i64 pre.length] ∧ C = (fun b => b = N) ∧ ¬ D N
section
variable {F F' : Nat → Prop} {lo X Y N : Nat} {C : Nat → Prop} {W00 : World} {x y : CurS} {rx ry : Option Nat} {Ex Ey : Nat → Prop} {pre : List CE} {C' D : Nat → Prop} {Wj wr w' : World}
theorem WalkM.jn (h : WalkM F F' lo X Y C (JN N) W00 x y rx ry Ex Ey pre C' D Wj wr) : Blk wr N 3 #[.int .i64 pre.length] ∧ C' = fun b => b = N := ⟨h.jst.blk h.j.1 h.j.2.2, h.j.2.1⟩
theorem WalkM.cnt (h : WalkM F F' lo X Y C (JN N) W00 x y rx ry Ex Ey pre C' D Wj wr) {c : CE} (hst : St (fun b => b = N) wr w') (hb : Blk w' N 3 #[.int .i64 ((pre.length : Int) + 1)]) : WalkM F F' lo X Y C (JN N) W00 x y rx ry Ex Ey (pre ++ [c]) C' (Own X Y rx ry) w' w' := by
  have h2 := h.jn.2
  have hN : C' N := by rw [h2]
  refine h.told ⟨by rw [List.length_append, List.length_singleton]; exact hb, h2, fun ho => ?_⟩ (fun b hb' => ?_) (by rw [h2]; exact hst) (fun b hb => .inl hb)
  · rcases h.ownK ho with e | e
    · exact (h.disC N hN).1 e
    · exact (h.disC N hN).2 e
  · rw [h2] at hb'
    obtain rfl : b = N := hb'
    exact hb.lt
end
theorem count1_any {W : World} {N n : Nat} (x : CE) (hb : Blk W N 3 #[.int .i64 n]) (hn : n ≤ 2000000) : Calls Try.prog 125 #[x.agg, .pointer (some ⟨N, 0, none⟩)] W fun e w' => e = .returned (.bool true) ∧ St (fun b => b = N) W w' ∧ Blk w' N 3 #[.int .i64 ((n : Int) + 1)] := by
  have c0 := hb.cell 0
  have f0 := hb.frozen 0
  have l0 := hb.lt
  have HB := Lib.hid hb
  clear hb
  go_enter Try.func125, Try.ntmps125
  go_wp2_with fail
  go_ret
  exact ⟨rfl, ((St.refl (fun b => b = N) W).set (p := ⟨N, 0, none⟩) (.inr rfl) _).trans (((Ext.refl _).alloc _ _).st _), (HB.out.set_ 0 _).alloc _⟩
def CountP (F F' : Nat → Prop) (lo X Y N : Nat) (x0 y0 : CurS) (C : Nat → Prop) (W00 : World) (e : Ending) (w' : World) : Prop :=
  e = .returned (.tuple #[]) ∧ ∃ x y rx ry Ex Ey pre C' D Wj, WalkM F F' lo X Y C (JN N) W00 x y rx ry Ex Ey pre C' D Wj w' ∧ Run x0 y0 x y (pre.map CE.c) ∧ x.gone ∧ y.gone
theorem run_few {x0 y0 x y : CurS} {pre : List CE} (h : Run x0 y0 x y (pre.map CE.c)) (okx : x0.ok) (oky : y0.ok) (hal : (chg x0.cont y0.cont).length ≤ 2000000) : pre.length ≤ 2000000 := by
  rw [h.chg okx oky, List.length_append, List.length_map] at hal
  omega
set_option maxRecDepth 100000 in
set_option maxHeartbeats 40000000 in
theorem diffcount_any {F F' : Nat → Prop} {lo X Y N : Nat} {C : Nat → Prop} {W00 : World} {x0 y0 : CurS} {rx0 ry0 : Option Nat} {Ex0 Ey0 : Nat → Prop} {C0 D0 : Nat → Prop} {Wj0 W : World}
    (hS : WalkM F F' lo X Y C (JN N) W00 x0 y0 rx0 ry0 Ex0 Ey0 [] C0 D0 Wj0 W) (okx : x0.ok) (oky : y0.ok) (hal : (chg x0.cont y0.cont).length ≤ 2000000) :
    Calls Try.prog 124 #[curP X, curP Y, .func (.func 125) #[] #[.pointer (some ⟨N, 0, none⟩)]] W (CountP F F' lo X Y N x0 y0 C W00) := by
  have HS0 := Lib.hid hS
  have HOKX := Lib.hid okx
  have HOKY := Lib.hid oky
  have HALL := Lib.hid hal
  clear hS okx oky hal
  have eg := enters_of Try.func125 (by kernel_rfl) rfl
  refine (callsIn_wide (n := 5)).1 ?_
  refine callsIn_of_wp Try.func124 rfl trivial ?_ rfl
  simp only [Try.ntmps124, List.size_toArray, List.length_cons, List.length_nil, Nat.reduceAdd, Nat.reduceSub, Array.replicate_succ, Array.replicate_zero, List.push_toArray, List.append_toArray, List.nil_append, List.cons_append]
  gi_wp2_with fail
  refine wpIn_scope9 ?_
  gi_wp2_with fail
  refine wpIn_label ?_
  gi_wp2_with fail
  gi_loopg [] (x0.wt + y0.wt) (fun k wr => ∃ (x y : CurS) (rx ry : Option Nat) (Ex Ey : Nat → Prop) (pre : List CE) (C' D : Nat → Prop) (Wj : World), x.wt + y.wt = k ∧ WalkM F F' lo X Y C (JN N) W00 x y rx ry Ex Ey pre C' D Wj wr ∧ Run x0 y0 x y (pre.map CE.c))
  case atStart => exact ⟨x0, y0, _, _, _, _, [], _, _, _, rfl, HS0.out, Run.start⟩
  case round =>
    obtain ⟨x, y, rx, ry, Ex, Ey, pre, C', D, Wj, rfl, hS, hrun⟩ := hrel
    obtain ⟨px, hzx, fx, lx, bx, hhx, hfx⟩ := head_any hS.cx
    obtain ⟨py, hzy, fy, ly, by_, hhy, hfy⟩ := head_any hS.cy
    obtain ⟨okx, oky⟩ := hrun.ok HOKX.out HOKY.out
    have HS := Lib.hid hS
    have HRUN := Lib.hid hrun
    have HHX := Lib.hid hhx
    have HHY := Lib.hid hhy
    have HOX := Lib.hid okx
    have HOY := Lib.hid oky
    clear hS hrun hhx hhy okx oky
    rcases hfx with ⟨hgx, rfl, rfl⟩ | ⟨e, es1, hex, rfl, rfl, rfl, hf1, hl1, hf2, hl2⟩ | ⟨a, A, hnx, rfl, rfl, hA, hz1, hf1, hl1⟩
    · skip
      have hnnx : x.node = none := by unfold CurS.node; rw [if_pos hgx.1, hgx.2]; rfl
      rcases hfy with ⟨hgy, rfl, rfl⟩ | ⟨f, es2, hey, rfl, rfl, rfl, hf1, hl1, hf2, hl2⟩ | ⟨b, B, hny, rfl, rfl, hB, hz1, hf1, hl1⟩
      · skip
        have hnny : y.node = none := by unfold CurS.node; rw [if_pos hgy.1, hgy.2]; rfl
        gi_wp2_with fail
        refine ⟨trivial, ?_⟩
        refine (callsIn_wide.2 (HHX.out wr (Ext.refl wr))).mono ?_
        rintro e w1 ⟨rfl, hx1⟩
        have hx1' := hx1.alloc #[.pointer none, .int .i64 hzx, .string fx, .string lx] 222
        have hbp := Blk.new w1 222 #[.pointer none, .int .i64 hzx, .string fx, .string lx]
        have HX1 := Lib.hid hx1'
        have HBP := Lib.hid hbp
        clear hx1 hx1' hbp
        gi_wp2_with fail
        refine ⟨trivial, ?_⟩
        refine (callsIn_wide.2 (HHY.out _ HX1.out)).mono ?_
        rintro e w2 ⟨rfl, hx2⟩
        have hbp2 := HBP.out.ext hx2
        have p0 : w2.cell? ⟨w1.heap.size, 0, none⟩ = some (.pointer none) := hbp2.cell 0
        have p1 : w2.cell? ⟨w1.heap.size, 1, none⟩ = some (.int .i64 hzx) := hbp2.cell 1
        have p2 : w2.cell? ⟨w1.heap.size, 2, none⟩ = some (.string fx) := hbp2.cell 2
        have p3 : w2.cell? ⟨w1.heap.size, 3, none⟩ = some (.string lx) := hbp2.cell 3
        have lp := hbp2.lt
        have hx3 := (HX1.out.trans hx2).alloc #[.pointer none, .int .i64 hzy, .string fy, .string ly] 222
        have HS3 := Lib.hid (HS.out.ext hx3)
        have HW3 := Lib.hid hx3
        clear hx2 hx3 hbp2
        gi_wp2_with fail
        have HFIN := Lib.hid (show CountP F F' lo X Y N x0 y0 C W00 (.returned (.tuple #[])) _ from ⟨rfl, x, y, _, _, _, _, pre, _, _, _, HS3.out, HRUN.out, hgx, hgy⟩)
        go_end0
        exact HFIN.out
      · skip
        have hnny : y.node = none := by unfold CurS.node; rw [if_neg (by rw [hey]; simp)]
        have hngy : ¬ y.gone := fun h => by rw [h.1] at hey; cases hey
        have HFY := Lib.hid (hf1.trans hf2.symm)
        have HLY := Lib.hid (hl1.trans hl2.symm)
        have HFF := Lib.hid hf1
        have HLF := Lib.hid hl1
        clear hf1 hl1 hf2 hl2
        gi_wp2_with fail
        refine ⟨trivial, ?_⟩
        refine (callsIn_wide.2 (HHX.out wr (Ext.refl wr))).mono ?_
        rintro e w1 ⟨rfl, hx1⟩
        have hx1' := hx1.alloc #[.pointer none, .int .i64 hzx, .string fx, .string lx] 222
        have hbp := Blk.new w1 222 #[.pointer none, .int .i64 hzx, .string fx, .string lx]
        have HX1 := Lib.hid hx1'
        have HBP := Lib.hid hbp
        clear hx1 hx1' hbp
        gi_wp2_with fail
        refine ⟨trivial, ?_⟩
        refine (callsIn_wide.2 (HHY.out _ HX1.out)).mono ?_
        rintro e w2 ⟨rfl, hx2⟩
        have hbp2 := HBP.out.ext hx2
        have p0 : w2.cell? ⟨w1.heap.size, 0, none⟩ = some (.pointer none) := hbp2.cell 0
        have p1 : w2.cell? ⟨w1.heap.size, 1, none⟩ = some (.int .i64 hzx) := hbp2.cell 1
        have p2 : w2.cell? ⟨w1.heap.size, 2, none⟩ = some (.string fx) := hbp2.cell 2
        have p3 : w2.cell? ⟨w1.heap.size, 3, none⟩ = some (.string lx) := hbp2.cell 3
        have lp := hbp2.lt
        have hx3 := (HX1.out.trans hx2).alloc #[.pointer none, .int .i64 (-1), .string fy, .string ly] 222
        have HS3 := Lib.hid (HS.out.ext hx3)
        have HW3 := Lib.hid hx3
        clear hx2 hx3 hbp2
        gi_wp2_with fail
        refine ⟨trivial, ?_⟩
        refine (callsIn_wide.2 (take_cur HS3.out.cy hey)).mono ?_
        rintro e' w4 ⟨sl, so, rfl, hc4, hst4, hr4, hk4⟩
        have HS4 := Lib.hid (HS3.out.movY (hst4.mono fun i _ hi => .inl hi) hc4 (fun b hb => .inl hb) (fun b hb => .inl hb))
        have HCR4 := Lib.hid (come_cr hr4 hk4)
        have HST := Lib.hid (show Step x y x y.take [comeC f] from .come hey (.inl hgx))
        clear hc4 hst4 hr4 hk4 p0 p1 p2 p3 lp
        gi_wp2_with fail
        refine ⟨trivial, ?_⟩
        refine (callsIn_wide.2 (come_any w4 f sl so)).mono ?_
        rintro e' w5 ⟨rfl, hx5⟩
        have HS5 := Lib.hid (HS4.out.ext hx5)
        have HCR := Lib.hid ((HCR4.out.agree (hx5.agree fun b hb => (HS4.out.regY b hb).2.1)).mono (HS5.out.regY))
        clear hx5
        have hcl := count1_any (comeCE f sl so) HS5.out.jn.1 (run_few HRUN.out HOKX.out HOKY.out HALL.out)
        have HCL := Lib.hid hcl
        clear hcl
        skip
        gi_wp2_with fail
        refine ⟨trivial, ?_⟩
        refine (callsIn_wide.2 HCL.out).mono ?_
        rintro e' w6 ⟨rfl, hst6, hb6⟩
        have HS9 := Lib.hid (HS5.out.cnt (c := comeCE f sl so) hst6 hb6)
        have HRN := Lib.hid (show Run x0 y0 x y.take ((pre ++ [comeCE f sl so]).map CE.c) by rw [List.map_append]; exact HRUN.out.step HST.out)
        clear hst6 hb6
        gi_wp2_with fail
        gi_roundg (x.wt + y.take.wt)
        case rel => exact ⟨x, y.take, _, _, _, _, _, _, _, _, rfl, HS9.out, HRN.out⟩
        case measure => exact HST.out.wt
      · skip
        have hngy : ¬ y.gone := fun h => by have := (y.node_some hny).2.2; rw [h.2] at this; cases this
        have HFY := Lib.hid hf1
        have HLY := Lib.hid hl1
        have HB := Lib.hid hB
        have HZY := Lib.hid hz1
        have hz0y : (-1 : Int) < hzy := by omega
        have hz0y' : ¬ hzy < (-1 : Int) := by omega
        clear hf1 hl1 hB hz1
        have hne : ¬ sameN x y := fun ⟨a', b', h1, h2, h3⟩ => by rw [hnnx] at h1; cases h1
        gi_wp2_with fail
        refine ⟨trivial, ?_⟩
        refine (callsIn_wide.2 (HHX.out wr (Ext.refl wr))).mono ?_
        rintro e w1 ⟨rfl, hx1⟩
        have hx1' := hx1.alloc #[.pointer none, .int .i64 hzx, .string fx, .string lx] 222
        have hbp := Blk.new w1 222 #[.pointer none, .int .i64 hzx, .string fx, .string lx]
        have HX1 := Lib.hid hx1'
        have HBP := Lib.hid hbp
        clear hx1 hx1' hbp
        gi_wp2_with fail
        refine ⟨trivial, ?_⟩
        refine (callsIn_wide.2 (HHY.out _ HX1.out)).mono ?_
        rintro e w2 ⟨rfl, hx2⟩
        have hbp2 := HBP.out.ext hx2
        have p0 : w2.cell? ⟨w1.heap.size, 0, none⟩ = some (.pointer none) := hbp2.cell 0
        have p1 : w2.cell? ⟨w1.heap.size, 1, none⟩ = some (.int .i64 hzx) := hbp2.cell 1
        have p2 : w2.cell? ⟨w1.heap.size, 2, none⟩ = some (.string fx) := hbp2.cell 2
        have p3 : w2.cell? ⟨w1.heap.size, 3, none⟩ = some (.string lx) := hbp2.cell 3
        have lp := hbp2.lt
        have hx3 := (HX1.out.trans hx2).alloc #[.pointer (some B), .int .i64 hzy, .string fy, .string ly] 222
        have HS3 := Lib.hid (HS.out.ext hx3)
        have HW3 := Lib.hid hx3
        clear hx2 hx3 hbp2
        gi_wp2_with fail
        refine ⟨trivial, ?_⟩
        refine (callsIn_wide.2 (open_any HS3.out.cy hny (HOY.out b (List.mem_of_getLast? (y.node_some hny).2.2)))).mono ?_
        rintro e w4 ⟨rfl, E4, r4, hc4, hst4, hE4, hr4⟩
        have HS9 := Lib.hid (HS3.out.movY hst4 hc4 hE4 hr4)
        have HST := Lib.hid (show Step x y x y.open_ [] from .openY hny hne (.inl hgx))
        have HRN := Lib.hid (show Run x0 y0 x y.open_ (pre.map CE.c) by have := HRUN.out.step HST.out; rwa [List.append_nil] at this)
        clear hc4 hst4 hE4 hr4
        clear p0 p1 p2 p3 lp
        gi_wp2_with fail
        gi_roundg (x.wt + y.open_.wt)
        case rel => exact ⟨x, y.open_, _, _, _, _, _, _, _, _, rfl, HS9.out, HRN.out⟩
        case measure => exact HST.out.wt
    · skip
      have hnnx : x.node = none := by unfold CurS.node; rw [if_neg (by rw [hex]; simp)]
      have hngx : ¬ x.gone := fun h => by rw [h.1] at hex; cases hex
      have HFX := Lib.hid (hf1.trans hf2.symm)
      have HLX := Lib.hid (hl1.trans hl2.symm)
      have HFE := Lib.hid hf1
      have HLE := Lib.hid hl1
      clear hf1 hl1 hf2 hl2
      rcases hfy with ⟨hgy, rfl, rfl⟩ | ⟨f, es2, hey, rfl, rfl, rfl, hf1, hl1, hf2, hl2⟩ | ⟨b, B, hny, rfl, rfl, hB, hz1, hf1, hl1⟩
      · skip
        have hnny : y.node = none := by unfold CurS.node; rw [if_pos hgy.1, hgy.2]; rfl
        gi_wp2_with fail
        refine ⟨trivial, ?_⟩
        refine (callsIn_wide.2 (HHX.out wr (Ext.refl wr))).mono ?_
        rintro e w1 ⟨rfl, hx1⟩
        have hx1' := hx1.alloc #[.pointer none, .int .i64 (-1), .string fx, .string lx] 222
        have hbp := Blk.new w1 222 #[.pointer none, .int .i64 (-1), .string fx, .string lx]
        have HX1 := Lib.hid hx1'
        have HBP := Lib.hid hbp
        clear hx1 hx1' hbp
        gi_wp2_with fail
        refine ⟨trivial, ?_⟩
        refine (callsIn_wide.2 (HHY.out _ HX1.out)).mono ?_
        rintro e w2 ⟨rfl, hx2⟩
        have hbp2 := HBP.out.ext hx2
        have p0 : w2.cell? ⟨w1.heap.size, 0, none⟩ = some (.pointer none) := hbp2.cell 0
        have p1 : w2.cell? ⟨w1.heap.size, 1, none⟩ = some (.int .i64 (-1)) := hbp2.cell 1
        have p2 : w2.cell? ⟨w1.heap.size, 2, none⟩ = some (.string fx) := hbp2.cell 2
        have p3 : w2.cell? ⟨w1.heap.size, 3, none⟩ = some (.string lx) := hbp2.cell 3
        have lp := hbp2.lt
        have hx3 := (HX1.out.trans hx2).alloc #[.pointer none, .int .i64 hzy, .string fy, .string ly] 222
        have HS3 := Lib.hid (HS.out.ext hx3)
        have HW3 := Lib.hid hx3
        clear hx2 hx3 hbp2
        gi_wp2_with fail
        refine ⟨trivial, ?_⟩
        refine (callsIn_wide.2 (take_cur HS3.out.cx hex)).mono ?_
        rintro e' w4 ⟨sl, so, rfl, hc4, hst4, hr4, hk4⟩
        have HS4 := Lib.hid (HS3.out.movX (hst4.mono fun i _ hi => .inl hi) hc4 (fun b hb => .inl hb) (fun b hb => .inl hb))
        have HCR4 := Lib.hid (gone_cr hr4 hk4)
        have HST := Lib.hid (show Step x y x.take y [goneC e] from .gone hex (.inl hgy))
        clear hc4 hst4 hr4 hk4 p0 p1 p2 p3 lp
        gi_wp2_with fail
        refine ⟨trivial, ?_⟩
        refine (callsIn_wide.2 (gone_any w4 e sl so)).mono ?_
        rintro e' w5 ⟨rfl, hx5⟩
        have HS5 := Lib.hid (HS4.out.ext hx5)
        have HCR := Lib.hid ((HCR4.out.agree (hx5.agree fun b hb => (HS4.out.regX b hb).2.1)).mono (HS5.out.regX))
        clear hx5
        have hcl := count1_any (goneCE e sl so) HS5.out.jn.1 (run_few HRUN.out HOKX.out HOKY.out HALL.out)
        have HCL := Lib.hid hcl
        clear hcl
        skip
        gi_wp2_with fail
        refine ⟨trivial, ?_⟩
        refine (callsIn_wide.2 HCL.out).mono ?_
        rintro e' w6 ⟨rfl, hst6, hb6⟩
        have HS9 := Lib.hid (HS5.out.cnt (c := goneCE e sl so) hst6 hb6)
        have HRN := Lib.hid (show Run x0 y0 x.take y ((pre ++ [goneCE e sl so]).map CE.c) by rw [List.map_append]; exact HRUN.out.step HST.out)
        clear hst6 hb6
        gi_wp2_with fail
        gi_roundg (x.take.wt + y.wt)
        case rel => exact ⟨x.take, y, _, _, _, _, _, _, _, _, rfl, HS9.out, HRN.out⟩
        case measure => exact HST.out.wt
      · skip
        have hnny : y.node = none := by unfold CurS.node; rw [if_neg (by rw [hey]; simp)]
        have hngy : ¬ y.gone := fun h => by rw [h.1] at hey; cases hey
        have HFY := Lib.hid (hf1.trans hf2.symm)
        have HLY := Lib.hid (hl1.trans hl2.symm)
        have HFF := Lib.hid hf1
        have HLF := Lib.hid hl1
        clear hf1 hl1 hf2 hl2
        cases hlt : klt lx fy with
        | true =>
          have hlt' : Op.bytesLess lx.toList fy.toList = true := hlt
          have HLT := Lib.hid hlt
          gi_wp2_with fail
          refine ⟨trivial, ?_⟩
          refine (callsIn_wide.2 (HHX.out wr (Ext.refl wr))).mono ?_
          rintro e w1 ⟨rfl, hx1⟩
          have hx1' := hx1.alloc #[.pointer none, .int .i64 (-1), .string fx, .string lx] 222
          have hbp := Blk.new w1 222 #[.pointer none, .int .i64 (-1), .string fx, .string lx]
          have HX1 := Lib.hid hx1'
          have HBP := Lib.hid hbp
          clear hx1 hx1' hbp
          gi_wp2_with fail
          refine ⟨trivial, ?_⟩
          refine (callsIn_wide.2 (HHY.out _ HX1.out)).mono ?_
          rintro e w2 ⟨rfl, hx2⟩
          have hbp2 := HBP.out.ext hx2
          have p0 : w2.cell? ⟨w1.heap.size, 0, none⟩ = some (.pointer none) := hbp2.cell 0
          have p1 : w2.cell? ⟨w1.heap.size, 1, none⟩ = some (.int .i64 (-1)) := hbp2.cell 1
          have p2 : w2.cell? ⟨w1.heap.size, 2, none⟩ = some (.string fx) := hbp2.cell 2
          have p3 : w2.cell? ⟨w1.heap.size, 3, none⟩ = some (.string lx) := hbp2.cell 3
          have lp := hbp2.lt
          have hx3 := (HX1.out.trans hx2).alloc #[.pointer none, .int .i64 (-1), .string fy, .string ly] 222
          have HS3 := Lib.hid (HS.out.ext hx3)
          have HW3 := Lib.hid hx3
          clear hx2 hx3 hbp2
          gi_wp2_with fail
          refine ⟨trivial, ?_⟩
          refine (callsIn_wide.2 (take_cur HS3.out.cx hex)).mono ?_
          rintro e' w4 ⟨sl, so, rfl, hc4, hst4, hr4, hk4⟩
          have HS4 := Lib.hid (HS3.out.movX (hst4.mono fun i _ hi => .inl hi) hc4 (fun b hb => .inl hb) (fun b hb => .inl hb))
          have HCR4 := Lib.hid (gone_cr hr4 hk4)
          have HST := Lib.hid (show Step x y x.take y [goneC e] from .gone hex (.inr ⟨hngy, by rw [← HLE.out, ← HFY.out]; exact HLT.out⟩))
          clear hc4 hst4 hr4 hk4 p0 p1 p2 p3 lp
          gi_wp2_with fail
          refine ⟨trivial, ?_⟩
          refine (callsIn_wide.2 (gone_any w4 e sl so)).mono ?_
          rintro e' w5 ⟨rfl, hx5⟩
          have HS5 := Lib.hid (HS4.out.ext hx5)
          have HCR := Lib.hid ((HCR4.out.agree (hx5.agree fun b hb => (HS4.out.regX b hb).2.1)).mono (HS5.out.regX))
          clear hx5
          have hcl := count1_any (goneCE e sl so) HS5.out.jn.1 (run_few HRUN.out HOKX.out HOKY.out HALL.out)
          have HCL := Lib.hid hcl
          clear hcl
          skip
          gi_wp2_with fail
          refine ⟨trivial, ?_⟩
          refine (callsIn_wide.2 HCL.out).mono ?_
          rintro e' w6 ⟨rfl, hst6, hb6⟩
          have HS9 := Lib.hid (HS5.out.cnt (c := goneCE e sl so) hst6 hb6)
          have HRN := Lib.hid (show Run x0 y0 x.take y ((pre ++ [goneCE e sl so]).map CE.c) by rw [List.map_append]; exact HRUN.out.step HST.out)
          clear hst6 hb6
          gi_wp2_with fail
          gi_roundg (x.take.wt + y.wt)
          case rel => exact ⟨x.take, y, _, _, _, _, _, _, _, _, rfl, HS9.out, HRN.out⟩
          case measure => exact HST.out.wt
        | false =>
          have hlt' : Op.bytesLess lx.toList fy.toList = false := hlt
          have HLT := Lib.hid hlt
          cases hgt : klt ly fx with
          | true =>
            have hgt' : Op.bytesLess ly.toList fx.toList = true := hgt
            have HGT := Lib.hid hgt
            gi_wp2_with fail
            refine ⟨trivial, ?_⟩
            refine (callsIn_wide.2 (HHX.out wr (Ext.refl wr))).mono ?_
            rintro e w1 ⟨rfl, hx1⟩
            have hx1' := hx1.alloc #[.pointer none, .int .i64 (-1), .string fx, .string lx] 222
            have hbp := Blk.new w1 222 #[.pointer none, .int .i64 (-1), .string fx, .string lx]
            have HX1 := Lib.hid hx1'
            have HBP := Lib.hid hbp
            clear hx1 hx1' hbp
            gi_wp2_with fail
            refine ⟨trivial, ?_⟩
            refine (callsIn_wide.2 (HHY.out _ HX1.out)).mono ?_
            rintro e w2 ⟨rfl, hx2⟩
            have hbp2 := HBP.out.ext hx2
            have p0 : w2.cell? ⟨w1.heap.size, 0, none⟩ = some (.pointer none) := hbp2.cell 0
            have p1 : w2.cell? ⟨w1.heap.size, 1, none⟩ = some (.int .i64 (-1)) := hbp2.cell 1
            have p2 : w2.cell? ⟨w1.heap.size, 2, none⟩ = some (.string fx) := hbp2.cell 2
            have p3 : w2.cell? ⟨w1.heap.size, 3, none⟩ = some (.string lx) := hbp2.cell 3
            have lp := hbp2.lt
            have hx3 := (HX1.out.trans hx2).alloc #[.pointer none, .int .i64 (-1), .string fy, .string ly] 222
            have HS3 := Lib.hid (HS.out.ext hx3)
            have HW3 := Lib.hid hx3
            clear hx2 hx3 hbp2
            gi_wp2_with fail
            refine ⟨trivial, ?_⟩
            refine (callsIn_wide.2 (take_cur HS3.out.cy hey)).mono ?_
            rintro e' w4 ⟨sl, so, rfl, hc4, hst4, hr4, hk4⟩
            have HS4 := Lib.hid (HS3.out.movY (hst4.mono fun i _ hi => .inl hi) hc4 (fun b hb => .inl hb) (fun b hb => .inl hb))
            have HCR4 := Lib.hid (come_cr hr4 hk4)
            have HST := Lib.hid (show Step x y x y.take [comeC f] from .come hey (.inr ⟨hngx, by rw [← HLF.out, ← HFX.out]; exact HGT.out⟩))
            clear hc4 hst4 hr4 hk4 p0 p1 p2 p3 lp
            gi_wp2_with fail
            refine ⟨trivial, ?_⟩
            refine (callsIn_wide.2 (come_any w4 f sl so)).mono ?_
            rintro e' w5 ⟨rfl, hx5⟩
            have HS5 := Lib.hid (HS4.out.ext hx5)
            have HCR := Lib.hid ((HCR4.out.agree (hx5.agree fun b hb => (HS4.out.regY b hb).2.1)).mono (HS5.out.regY))
            clear hx5
            have hcl := count1_any (comeCE f sl so) HS5.out.jn.1 (run_few HRUN.out HOKX.out HOKY.out HALL.out)
            have HCL := Lib.hid hcl
            clear hcl
            skip
            gi_wp2_with fail
            refine ⟨trivial, ?_⟩
            refine (callsIn_wide.2 HCL.out).mono ?_
            rintro e' w6 ⟨rfl, hst6, hb6⟩
            have HS9 := Lib.hid (HS5.out.cnt (c := comeCE f sl so) hst6 hb6)
            have HRN := Lib.hid (show Run x0 y0 x y.take ((pre ++ [comeCE f sl so]).map CE.c) by rw [List.map_append]; exact HRUN.out.step HST.out)
            clear hst6 hb6
            gi_wp2_with fail
            gi_roundg (x.wt + y.take.wt)
            case rel => exact ⟨x, y.take, _, _, _, _, _, _, _, _, rfl, HS9.out, HRN.out⟩
            case measure => exact HST.out.wt
          | false =>
            have hgt' : Op.bytesLess ly.toList fx.toList = false := hgt
            have HGT := Lib.hid hgt
            gi_wp2_with fail
            refine ⟨trivial, ?_⟩
            refine (callsIn_wide.2 (HHX.out wr (Ext.refl wr))).mono ?_
            rintro e w1 ⟨rfl, hx1⟩
            have hx1' := hx1.alloc #[.pointer none, .int .i64 (-1), .string fx, .string lx] 222
            have hbp := Blk.new w1 222 #[.pointer none, .int .i64 (-1), .string fx, .string lx]
            have HX1 := Lib.hid hx1'
            have HBP := Lib.hid hbp
            clear hx1 hx1' hbp
            gi_wp2_with fail
            refine ⟨trivial, ?_⟩
            refine (callsIn_wide.2 (HHY.out _ HX1.out)).mono ?_
            rintro e w2 ⟨rfl, hx2⟩
            have hbp2 := HBP.out.ext hx2
            have p0 : w2.cell? ⟨w1.heap.size, 0, none⟩ = some (.pointer none) := hbp2.cell 0
            have p1 : w2.cell? ⟨w1.heap.size, 1, none⟩ = some (.int .i64 (-1)) := hbp2.cell 1
            have p2 : w2.cell? ⟨w1.heap.size, 2, none⟩ = some (.string fx) := hbp2.cell 2
            have p3 : w2.cell? ⟨w1.heap.size, 3, none⟩ = some (.string lx) := hbp2.cell 3
            have lp := hbp2.lt
            have hx3 := (HX1.out.trans hx2).alloc #[.pointer none, .int .i64 (-1), .string fy, .string ly] 222
            have HS3 := Lib.hid (HS.out.ext hx3)
            have HW3 := Lib.hid hx3
            clear hx2 hx3 hbp2
            gi_wp2_with fail
            have hkk : e.1 = f.1 := klt_total (by rw [← HLE.out, ← HFF.out]; exact HLT.out) (by rw [← HLF.out, ← HFE.out]; exact HGT.out)
            have HKK := Lib.hid hkk
            clear hkk
            refine ⟨trivial, ?_⟩
            refine (callsIn_wide.2 (take_cur HS3.out.cx hex)).mono ?_
            rintro e' w4 ⟨sl, so, rfl, hc4, hst4, hr4, hk4⟩
            have HS4 := Lib.hid (HS3.out.movX (hst4.mono fun i _ hi => .inl hi) hc4 (fun b hb => .inl hb) (fun b hb => .inl hb))
            have HRV4 := Lib.hid hr4
            have HKM4 := Lib.hid hk4
            clear hc4 hst4 hr4 hk4 p0 p1 p2 p3 lp
            gi_wp2_with fail
            refine ⟨trivial, ?_⟩
            refine (callsIn_wide.2 (take_cur HS4.out.cy hey)).mono ?_
            rintro e' w5 ⟨sl', so', rfl, hc5, hst5, hr5, hk5⟩
            have hrv5 := HRV4.out.agree (hst5.agree.mono fun b hb => ⟨(HS4.out.regX b hb).2.1, fun e => (HS4.out.regX b hb).2.2 (.inl (.inr (.inl e)))⟩)
            have HS5' := Lib.hid (HS4.out.movY (hst5.mono fun i _ hi => .inl hi) hc5 (fun b hb => .inl hb) (fun b hb => .inl hb))
            have HRV5 := Lib.hid hrv5
            have HRV5' := Lib.hid hr5
            have HST := Lib.hid (show Step x y x.take y.take (becC e f) from .both hex hey HKK.out)
            clear hc5 hst5 hr5 hk5 hrv5
            gi_wp2_with fail
            refine ⟨trivial, ?_⟩
            refine (callsIn_wide.2 (became_any (e := e) (f := f) (HRV5.out.mono fun b hb => (HS5'.out.regX b hb).2.1) (HRV5'.out.mono fun b hb => (HS5'.out.regY b hb).2.1))).mono ?_
            rintro e' w7 ⟨rfl, hx7⟩
            by_cases hc : cmpV e.2 f.2 = 0
            · rw [if_pos hc, decide_eq_false (by simp [hc])]
              have hx8 := hx7.alloc #[.string ByteArray.empty, .bool false, .int .i64 0, .bool false, .int .i64 0, .string ByteArray.empty, .slice none 0 0, .slice none 0 0, .bool false, .int .i64 0, .bool false, .int .i64 0, .string ByteArray.empty, .slice none 0 0, .slice none 0 0] 134
              have HS9 := Lib.hid (HS5'.out.ext hx8)
              have HRN := Lib.hid (show Run x0 y0 x.take y.take (pre.map CE.c) by have := HRUN.out.step HST.out; rwa [becC, if_pos hc, List.append_nil] at this)
              rw [show zeroCE.agg = .agg #[.string ByteArray.empty, .bool false, .int .i64 0, .bool false, .int .i64 0, .string ByteArray.empty, .slice none 0 0, .slice none 0 0, .bool false, .int .i64 0, .bool false, .int .i64 0, .string ByteArray.empty, .slice none 0 0, .slice none 0 0] from rfl]
              clear hx7 hx8 hc
              gi_wp2_with fail
              refine ⟨fun _ h => absurd h (by simp), ?_⟩
              gi_wp2_with fail
              gi_roundg (x.take.wt + y.take.wt)
              case rel => exact ⟨x.take, y.take, _, _, _, _, _, _, _, _, rfl, HS9.out, HRN.out⟩
              case measure => exact HST.out.wt
            · rw [if_neg hc, decide_eq_true hc]
              have hx8 := hx7.alloc #[.string e.1, .bool true, .int .i64 e.2.kind, .bool e.2.b, .int .i64 e.2.i, .string e.2.t, .slice sl.a e.2.l.length sl.c, .slice so.a e.2.ok.length so.c, .bool true, .int .i64 f.2.kind, .bool f.2.b, .int .i64 f.2.i, .string f.2.t, .slice sl'.a f.2.l.length sl'.c, .slice so'.a f.2.ok.length so'.c] 134
              have HS5 := Lib.hid (HS5'.out.ext hx8)
              have HST' := Lib.hid (show Step x y x.take y.take [⟨e.1, true, e.2, true, f.2⟩] by have := HST.out; rwa [becC, if_neg hc] at this)
              have HCR := Lib.hid (show CR _ (fun b => lo ≤ b ∧ b < _ ∧ ¬ (Own X Y rx ry b ∨ C' b)) (becCE e f sl so sl' so') from ⟨(HRV5.out.agree (hx8.agree fun b hb => (HS5'.out.regX b hb).2.1)).mono HS5.out.regX, (HRV5'.out.agree (hx8.agree fun b hb => (HS5'.out.regY b hb).2.1)).mono HS5.out.regY, HKM4.out⟩)
              clear HST
              have HST := HST'
              rw [show (becCE e f sl so sl' so').agg = .agg #[.string e.1, .bool true, .int .i64 e.2.kind, .bool e.2.b, .int .i64 e.2.i, .string e.2.t, .slice sl.a e.2.l.length sl.c, .slice so.a e.2.ok.length so.c, .bool true, .int .i64 f.2.kind, .bool f.2.b, .int .i64 f.2.i, .string f.2.t, .slice sl'.a f.2.l.length sl'.c, .slice so'.a f.2.ok.length so'.c] from rfl]
              clear hx7 hx8 hc HST'
              have hcl := count1_any (becCE e f sl so sl' so') HS5.out.jn.1 (run_few HRUN.out HOKX.out HOKY.out HALL.out)
              have HCL := Lib.hid hcl
              clear hcl
              skip
              gi_wp2_with fail
              refine ⟨trivial, ?_⟩
              refine (callsIn_wide.2 HCL.out).mono ?_
              rintro e' w6 ⟨rfl, hst6, hb6⟩
              have HS9 := Lib.hid (HS5.out.cnt (c := becCE e f sl so sl' so') hst6 hb6)
              have HRN := Lib.hid (show Run x0 y0 x.take y.take ((pre ++ [becCE e f sl so sl' so']).map CE.c) by rw [List.map_append]; exact HRUN.out.step HST.out)
              clear hst6 hb6
              gi_wp2_with fail
              gi_roundg (x.take.wt + y.take.wt)
              case rel => exact ⟨x.take, y.take, _, _, _, _, _, _, _, _, rfl, HS9.out, HRN.out⟩
              case measure => exact HST.out.wt
      · skip
        have hngy : ¬ y.gone := fun h => by have := (y.node_some hny).2.2; rw [h.2] at this; cases this
        have HFY := Lib.hid hf1
        have HLY := Lib.hid hl1
        have HB := Lib.hid hB
        have HZY := Lib.hid hz1
        have hz0y : (-1 : Int) < hzy := by omega
        have hz0y' : ¬ hzy < (-1 : Int) := by omega
        clear hf1 hl1 hB hz1
        have hne : ¬ sameN x y := fun ⟨a', b', h1, h2, h3⟩ => by rw [hnnx] at h1; cases h1
        cases hlt : klt lx fy with
        | true =>
          have hlt' : Op.bytesLess lx.toList fy.toList = true := hlt
          have HLT := Lib.hid hlt
          gi_wp2_with fail
          refine ⟨trivial, ?_⟩
          refine (callsIn_wide.2 (HHX.out wr (Ext.refl wr))).mono ?_
          rintro e w1 ⟨rfl, hx1⟩
          have hx1' := hx1.alloc #[.pointer none, .int .i64 (-1), .string fx, .string lx] 222
          have hbp := Blk.new w1 222 #[.pointer none, .int .i64 (-1), .string fx, .string lx]
          have HX1 := Lib.hid hx1'
          have HBP := Lib.hid hbp
          clear hx1 hx1' hbp
          gi_wp2_with fail
          refine ⟨trivial, ?_⟩
          refine (callsIn_wide.2 (HHY.out _ HX1.out)).mono ?_
          rintro e w2 ⟨rfl, hx2⟩
          have hbp2 := HBP.out.ext hx2
          have p0 : w2.cell? ⟨w1.heap.size, 0, none⟩ = some (.pointer none) := hbp2.cell 0
          have p1 : w2.cell? ⟨w1.heap.size, 1, none⟩ = some (.int .i64 (-1)) := hbp2.cell 1
          have p2 : w2.cell? ⟨w1.heap.size, 2, none⟩ = some (.string fx) := hbp2.cell 2
          have p3 : w2.cell? ⟨w1.heap.size, 3, none⟩ = some (.string lx) := hbp2.cell 3
          have lp := hbp2.lt
          have hx3 := (HX1.out.trans hx2).alloc #[.pointer (some B), .int .i64 hzy, .string fy, .string ly] 222
          have HS3 := Lib.hid (HS.out.ext hx3)
          have HW3 := Lib.hid hx3
          clear hx2 hx3 hbp2
          gi_wp2_with fail
          refine ⟨trivial, ?_⟩
          refine (callsIn_wide.2 (take_cur HS3.out.cx hex)).mono ?_
          rintro e' w4 ⟨sl, so, rfl, hc4, hst4, hr4, hk4⟩
          have HS4 := Lib.hid (HS3.out.movX (hst4.mono fun i _ hi => .inl hi) hc4 (fun b hb => .inl hb) (fun b hb => .inl hb))
          have HCR4 := Lib.hid (gone_cr hr4 hk4)
          have HST := Lib.hid (show Step x y x.take y [goneC e] from .gone hex (.inr ⟨hngy, by rw [← HLE.out, ← HFY.out]; exact HLT.out⟩))
          clear hc4 hst4 hr4 hk4 p0 p1 p2 p3 lp
          gi_wp2_with fail
          refine ⟨trivial, ?_⟩
          refine (callsIn_wide.2 (gone_any w4 e sl so)).mono ?_
          rintro e' w5 ⟨rfl, hx5⟩
          have HS5 := Lib.hid (HS4.out.ext hx5)
          have HCR := Lib.hid ((HCR4.out.agree (hx5.agree fun b hb => (HS4.out.regX b hb).2.1)).mono (HS5.out.regX))
          clear hx5
          have hcl := count1_any (goneCE e sl so) HS5.out.jn.1 (run_few HRUN.out HOKX.out HOKY.out HALL.out)
          have HCL := Lib.hid hcl
          clear hcl
          skip
          gi_wp2_with fail
          refine ⟨trivial, ?_⟩
          refine (callsIn_wide.2 HCL.out).mono ?_
          rintro e' w6 ⟨rfl, hst6, hb6⟩
          have HS9 := Lib.hid (HS5.out.cnt (c := goneCE e sl so) hst6 hb6)
          have HRN := Lib.hid (show Run x0 y0 x.take y ((pre ++ [goneCE e sl so]).map CE.c) by rw [List.map_append]; exact HRUN.out.step HST.out)
          clear hst6 hb6
          gi_wp2_with fail
          gi_roundg (x.take.wt + y.wt)
          case rel => exact ⟨x.take, y, _, _, _, _, _, _, _, _, rfl, HS9.out, HRN.out⟩
          case measure => exact HST.out.wt
        | false =>
          have hlt' : Op.bytesLess lx.toList fy.toList = false := hlt
          have HLT := Lib.hid hlt
          cases hgt : klt ly fx with
          | true =>
            have hgt' : Op.bytesLess ly.toList fx.toList = true := hgt
            have HGT := Lib.hid hgt
            gi_wp2_with fail
            refine ⟨trivial, ?_⟩
            refine (callsIn_wide.2 (HHX.out wr (Ext.refl wr))).mono ?_
            rintro e w1 ⟨rfl, hx1⟩
            have hx1' := hx1.alloc #[.pointer none, .int .i64 (-1), .string fx, .string lx] 222
            have hbp := Blk.new w1 222 #[.pointer none, .int .i64 (-1), .string fx, .string lx]
            have HX1 := Lib.hid hx1'
            have HBP := Lib.hid hbp
            clear hx1 hx1' hbp
            gi_wp2_with fail
            refine ⟨trivial, ?_⟩
            refine (callsIn_wide.2 (HHY.out _ HX1.out)).mono ?_
            rintro e w2 ⟨rfl, hx2⟩
            have hbp2 := HBP.out.ext hx2
            have p0 : w2.cell? ⟨w1.heap.size, 0, none⟩ = some (.pointer none) := hbp2.cell 0
            have p1 : w2.cell? ⟨w1.heap.size, 1, none⟩ = some (.int .i64 (-1)) := hbp2.cell 1
            have p2 : w2.cell? ⟨w1.heap.size, 2, none⟩ = some (.string fx) := hbp2.cell 2
            have p3 : w2.cell? ⟨w1.heap.size, 3, none⟩ = some (.string lx) := hbp2.cell 3
            have lp := hbp2.lt
            have hx3 := (HX1.out.trans hx2).alloc #[.pointer (some B), .int .i64 hzy, .string fy, .string ly] 222
            have HS3 := Lib.hid (HS.out.ext hx3)
            have HW3 := Lib.hid hx3
            clear hx2 hx3 hbp2
            gi_wp2_with fail
            refine ⟨trivial, ?_⟩
            refine (callsIn_wide.2 (open_any HS3.out.cy hny (HOY.out b (List.mem_of_getLast? (y.node_some hny).2.2)))).mono ?_
            rintro e w4 ⟨rfl, E4, r4, hc4, hst4, hE4, hr4⟩
            have HS9 := Lib.hid (HS3.out.movY hst4 hc4 hE4 hr4)
            have HST := Lib.hid (show Step x y x y.open_ [] from .openY hny hne (.inr (.inl (by rw [← HLY.out, ← HFX.out]; exact HGT.out))))
            have HRN := Lib.hid (show Run x0 y0 x y.open_ (pre.map CE.c) by have := HRUN.out.step HST.out; rwa [List.append_nil] at this)
            clear hc4 hst4 hE4 hr4
            clear p0 p1 p2 p3 lp
            gi_wp2_with fail
            gi_roundg (x.wt + y.open_.wt)
            case rel => exact ⟨x, y.open_, _, _, _, _, _, _, _, _, rfl, HS9.out, HRN.out⟩
            case measure => exact HST.out.wt
          | false =>
            have hgt' : Op.bytesLess ly.toList fx.toList = false := hgt
            have HGT := Lib.hid hgt
            gi_wp2_with fail
            refine ⟨trivial, ?_⟩
            refine (callsIn_wide.2 (HHX.out wr (Ext.refl wr))).mono ?_
            rintro e w1 ⟨rfl, hx1⟩
            have hx1' := hx1.alloc #[.pointer none, .int .i64 (-1), .string fx, .string lx] 222
            have hbp := Blk.new w1 222 #[.pointer none, .int .i64 (-1), .string fx, .string lx]
            have HX1 := Lib.hid hx1'
            have HBP := Lib.hid hbp
            clear hx1 hx1' hbp
            gi_wp2_with fail
            refine ⟨trivial, ?_⟩
            refine (callsIn_wide.2 (HHY.out _ HX1.out)).mono ?_
            rintro e w2 ⟨rfl, hx2⟩
            have hbp2 := HBP.out.ext hx2
            have p0 : w2.cell? ⟨w1.heap.size, 0, none⟩ = some (.pointer none) := hbp2.cell 0
            have p1 : w2.cell? ⟨w1.heap.size, 1, none⟩ = some (.int .i64 (-1)) := hbp2.cell 1
            have p2 : w2.cell? ⟨w1.heap.size, 2, none⟩ = some (.string fx) := hbp2.cell 2
            have p3 : w2.cell? ⟨w1.heap.size, 3, none⟩ = some (.string lx) := hbp2.cell 3
            have lp := hbp2.lt
            have hx3 := (HX1.out.trans hx2).alloc #[.pointer (some B), .int .i64 hzy, .string fy, .string ly] 222
            have HS3 := Lib.hid (HS.out.ext hx3)
            have HW3 := Lib.hid hx3
            clear hx2 hx3 hbp2
            gi_wp2_with fail
            refine ⟨trivial, ?_⟩
            refine (callsIn_wide.2 (open_any HS3.out.cy hny (HOY.out b (List.mem_of_getLast? (y.node_some hny).2.2)))).mono ?_
            rintro e w4 ⟨rfl, E4, r4, hc4, hst4, hE4, hr4⟩
            have HS9 := Lib.hid (HS3.out.movY hst4 hc4 hE4 hr4)
            have HST := Lib.hid (show Step x y x y.open_ [] from .openY hny hne (.inr (.inr ⟨by rw [← HLX.out, ← HFY.out]; exact HLT.out, by rw [← HLY.out, ← HFX.out]; exact HGT.out, hngx, by rw [x.height_entry hex]; omega⟩)))
            have HRN := Lib.hid (show Run x0 y0 x y.open_ (pre.map CE.c) by have := HRUN.out.step HST.out; rwa [List.append_nil] at this)
            clear hc4 hst4 hE4 hr4
            clear p0 p1 p2 p3 lp
            gi_wp2_with fail
            gi_roundg (x.wt + y.open_.wt)
            case rel => exact ⟨x, y.open_, _, _, _, _, _, _, _, _, rfl, HS9.out, HRN.out⟩
            case measure => exact HST.out.wt
    · skip
      have hngx : ¬ x.gone := fun h => by have := (x.node_some hnx).2.2; rw [h.2] at this; cases this
      have HFX := Lib.hid hf1
      have HLX := Lib.hid hl1
      have HA := Lib.hid hA
      have HZX := Lib.hid hz1
      have hz0x : (-1 : Int) < hzx := by omega
      have hz0x' : ¬ hzx < (-1 : Int) := by omega
      clear hf1 hl1 hA hz1
      rcases hfy with ⟨hgy, rfl, rfl⟩ | ⟨f, es2, hey, rfl, rfl, rfl, hf1, hl1, hf2, hl2⟩ | ⟨b, B, hny, rfl, rfl, hB, hz1, hf1, hl1⟩
      · skip
        have hnny : y.node = none := by unfold CurS.node; rw [if_pos hgy.1, hgy.2]; rfl
        have hne : ¬ sameN x y := fun ⟨a', b', h1, h2, h3⟩ => by rw [hnny] at h2; cases h2
        gi_wp2_with fail
        refine ⟨trivial, ?_⟩
        refine (callsIn_wide.2 (HHX.out wr (Ext.refl wr))).mono ?_
        rintro e w1 ⟨rfl, hx1⟩
        have hx1' := hx1.alloc #[.pointer (some A), .int .i64 hzx, .string fx, .string lx] 222
        have hbp := Blk.new w1 222 #[.pointer (some A), .int .i64 hzx, .string fx, .string lx]
        have HX1 := Lib.hid hx1'
        have HBP := Lib.hid hbp
        clear hx1 hx1' hbp
        gi_wp2_with fail
        refine ⟨trivial, ?_⟩
        refine (callsIn_wide.2 (HHY.out _ HX1.out)).mono ?_
        rintro e w2 ⟨rfl, hx2⟩
        have hbp2 := HBP.out.ext hx2
        have p0 : w2.cell? ⟨w1.heap.size, 0, none⟩ = some (.pointer (some A)) := hbp2.cell 0
        have p1 : w2.cell? ⟨w1.heap.size, 1, none⟩ = some (.int .i64 hzx) := hbp2.cell 1
        have p2 : w2.cell? ⟨w1.heap.size, 2, none⟩ = some (.string fx) := hbp2.cell 2
        have p3 : w2.cell? ⟨w1.heap.size, 3, none⟩ = some (.string lx) := hbp2.cell 3
        have lp := hbp2.lt
        have hx3 := (HX1.out.trans hx2).alloc #[.pointer none, .int .i64 hzy, .string fy, .string ly] 222
        have HS3 := Lib.hid (HS.out.ext hx3)
        have HW3 := Lib.hid hx3
        clear hx2 hx3 hbp2
        gi_wp2_with fail
        refine ⟨trivial, ?_⟩
        refine (callsIn_wide.2 (open_any HS3.out.cx hnx (HOX.out a (List.mem_of_getLast? (x.node_some hnx).2.2)))).mono ?_
        rintro e w4 ⟨rfl, E4, r4, hc4, hst4, hE4, hr4⟩
        have HS9 := Lib.hid (HS3.out.movX hst4 hc4 hE4 hr4)
        have HST := Lib.hid (show Step x y x.open_ y [] from .openX hnx hne (.inl hgy))
        have HRN := Lib.hid (show Run x0 y0 x.open_ y (pre.map CE.c) by have := HRUN.out.step HST.out; rwa [List.append_nil] at this)
        clear hc4 hst4 hE4 hr4
        clear p0 p1 p2 p3 lp
        gi_wp2_with fail
        gi_roundg (x.open_.wt + y.wt)
        case rel => exact ⟨x.open_, y, _, _, _, _, _, _, _, _, rfl, HS9.out, HRN.out⟩
        case measure => exact HST.out.wt
      · skip
        have hnny : y.node = none := by unfold CurS.node; rw [if_neg (by rw [hey]; simp)]
        have hngy : ¬ y.gone := fun h => by rw [h.1] at hey; cases hey
        have HFY := Lib.hid (hf1.trans hf2.symm)
        have HLY := Lib.hid (hl1.trans hl2.symm)
        have HFF := Lib.hid hf1
        have HLF := Lib.hid hl1
        clear hf1 hl1 hf2 hl2
        have hne : ¬ sameN x y := fun ⟨a', b', h1, h2, h3⟩ => by rw [hnny] at h2; cases h2
        cases hlt : klt lx fy with
        | true =>
          have hlt' : Op.bytesLess lx.toList fy.toList = true := hlt
          have HLT := Lib.hid hlt
          gi_wp2_with fail
          refine ⟨trivial, ?_⟩
          refine (callsIn_wide.2 (HHX.out wr (Ext.refl wr))).mono ?_
          rintro e w1 ⟨rfl, hx1⟩
          have hx1' := hx1.alloc #[.pointer (some A), .int .i64 hzx, .string fx, .string lx] 222
          have hbp := Blk.new w1 222 #[.pointer (some A), .int .i64 hzx, .string fx, .string lx]
          have HX1 := Lib.hid hx1'
          have HBP := Lib.hid hbp
          clear hx1 hx1' hbp
          gi_wp2_with fail
          refine ⟨trivial, ?_⟩
          refine (callsIn_wide.2 (HHY.out _ HX1.out)).mono ?_
          rintro e w2 ⟨rfl, hx2⟩
          have hbp2 := HBP.out.ext hx2
          have p0 : w2.cell? ⟨w1.heap.size, 0, none⟩ = some (.pointer (some A)) := hbp2.cell 0
          have p1 : w2.cell? ⟨w1.heap.size, 1, none⟩ = some (.int .i64 hzx) := hbp2.cell 1
          have p2 : w2.cell? ⟨w1.heap.size, 2, none⟩ = some (.string fx) := hbp2.cell 2
          have p3 : w2.cell? ⟨w1.heap.size, 3, none⟩ = some (.string lx) := hbp2.cell 3
          have lp := hbp2.lt
          have hx3 := (HX1.out.trans hx2).alloc #[.pointer none, .int .i64 (-1), .string fy, .string ly] 222
          have HS3 := Lib.hid (HS.out.ext hx3)
          have HW3 := Lib.hid hx3
          clear hx2 hx3 hbp2
          gi_wp2_with fail
          refine ⟨trivial, ?_⟩
          refine (callsIn_wide.2 (open_any HS3.out.cx hnx (HOX.out a (List.mem_of_getLast? (x.node_some hnx).2.2)))).mono ?_
          rintro e w4 ⟨rfl, E4, r4, hc4, hst4, hE4, hr4⟩
          have HS9 := Lib.hid (HS3.out.movX hst4 hc4 hE4 hr4)
          have HST := Lib.hid (show Step x y x.open_ y [] from .openX hnx hne (.inr (.inl (by rw [← HLX.out, ← HFY.out]; exact HLT.out))))
          have HRN := Lib.hid (show Run x0 y0 x.open_ y (pre.map CE.c) by have := HRUN.out.step HST.out; rwa [List.append_nil] at this)
          clear hc4 hst4 hE4 hr4
          clear p0 p1 p2 p3 lp
          gi_wp2_with fail
          gi_roundg (x.open_.wt + y.wt)
          case rel => exact ⟨x.open_, y, _, _, _, _, _, _, _, _, rfl, HS9.out, HRN.out⟩
          case measure => exact HST.out.wt
        | false =>
          have hlt' : Op.bytesLess lx.toList fy.toList = false := hlt
          have HLT := Lib.hid hlt
          cases hgt : klt ly fx with
          | true =>
            have hgt' : Op.bytesLess ly.toList fx.toList = true := hgt
            have HGT := Lib.hid hgt
            gi_wp2_with fail
            refine ⟨trivial, ?_⟩
            refine (callsIn_wide.2 (HHX.out wr (Ext.refl wr))).mono ?_
            rintro e w1 ⟨rfl, hx1⟩
            have hx1' := hx1.alloc #[.pointer (some A), .int .i64 hzx, .string fx, .string lx] 222
            have hbp := Blk.new w1 222 #[.pointer (some A), .int .i64 hzx, .string fx, .string lx]
            have HX1 := Lib.hid hx1'
            have HBP := Lib.hid hbp
            clear hx1 hx1' hbp
            gi_wp2_with fail
            refine ⟨trivial, ?_⟩
            refine (callsIn_wide.2 (HHY.out _ HX1.out)).mono ?_
            rintro e w2 ⟨rfl, hx2⟩
            have hbp2 := HBP.out.ext hx2
            have p0 : w2.cell? ⟨w1.heap.size, 0, none⟩ = some (.pointer (some A)) := hbp2.cell 0
            have p1 : w2.cell? ⟨w1.heap.size, 1, none⟩ = some (.int .i64 hzx) := hbp2.cell 1
            have p2 : w2.cell? ⟨w1.heap.size, 2, none⟩ = some (.string fx) := hbp2.cell 2
            have p3 : w2.cell? ⟨w1.heap.size, 3, none⟩ = some (.string lx) := hbp2.cell 3
            have lp := hbp2.lt
            have hx3 := (HX1.out.trans hx2).alloc #[.pointer none, .int .i64 (-1), .string fy, .string ly] 222
            have HS3 := Lib.hid (HS.out.ext hx3)
            have HW3 := Lib.hid hx3
            clear hx2 hx3 hbp2
            gi_wp2_with fail
            refine ⟨trivial, ?_⟩
            refine (callsIn_wide.2 (take_cur HS3.out.cy hey)).mono ?_
            rintro e' w4 ⟨sl, so, rfl, hc4, hst4, hr4, hk4⟩
            have HS4 := Lib.hid (HS3.out.movY (hst4.mono fun i _ hi => .inl hi) hc4 (fun b hb => .inl hb) (fun b hb => .inl hb))
            have HCR4 := Lib.hid (come_cr hr4 hk4)
            have HST := Lib.hid (show Step x y x y.take [comeC f] from .come hey (.inr ⟨hngx, by rw [← HLF.out, ← HFX.out]; exact HGT.out⟩))
            clear hc4 hst4 hr4 hk4 p0 p1 p2 p3 lp
            gi_wp2_with fail
            refine ⟨trivial, ?_⟩
            refine (callsIn_wide.2 (come_any w4 f sl so)).mono ?_
            rintro e' w5 ⟨rfl, hx5⟩
            have HS5 := Lib.hid (HS4.out.ext hx5)
            have HCR := Lib.hid ((HCR4.out.agree (hx5.agree fun b hb => (HS4.out.regY b hb).2.1)).mono (HS5.out.regY))
            clear hx5
            have hcl := count1_any (comeCE f sl so) HS5.out.jn.1 (run_few HRUN.out HOKX.out HOKY.out HALL.out)
            have HCL := Lib.hid hcl
            clear hcl
            skip
            gi_wp2_with fail
            refine ⟨trivial, ?_⟩
            refine (callsIn_wide.2 HCL.out).mono ?_
            rintro e' w6 ⟨rfl, hst6, hb6⟩
            have HS9 := Lib.hid (HS5.out.cnt (c := comeCE f sl so) hst6 hb6)
            have HRN := Lib.hid (show Run x0 y0 x y.take ((pre ++ [comeCE f sl so]).map CE.c) by rw [List.map_append]; exact HRUN.out.step HST.out)
            clear hst6 hb6
            gi_wp2_with fail
            gi_roundg (x.wt + y.take.wt)
            case rel => exact ⟨x, y.take, _, _, _, _, _, _, _, _, rfl, HS9.out, HRN.out⟩
            case measure => exact HST.out.wt
          | false =>
            have hgt' : Op.bytesLess ly.toList fx.toList = false := hgt
            have HGT := Lib.hid hgt
            gi_wp2_with fail
            refine ⟨trivial, ?_⟩
            refine (callsIn_wide.2 (HHX.out wr (Ext.refl wr))).mono ?_
            rintro e w1 ⟨rfl, hx1⟩
            have hx1' := hx1.alloc #[.pointer (some A), .int .i64 hzx, .string fx, .string lx] 222
            have hbp := Blk.new w1 222 #[.pointer (some A), .int .i64 hzx, .string fx, .string lx]
            have HX1 := Lib.hid hx1'
            have HBP := Lib.hid hbp
            clear hx1 hx1' hbp
            gi_wp2_with fail
            refine ⟨trivial, ?_⟩
            refine (callsIn_wide.2 (HHY.out _ HX1.out)).mono ?_
            rintro e w2 ⟨rfl, hx2⟩
            have hbp2 := HBP.out.ext hx2
            have p0 : w2.cell? ⟨w1.heap.size, 0, none⟩ = some (.pointer (some A)) := hbp2.cell 0
            have p1 : w2.cell? ⟨w1.heap.size, 1, none⟩ = some (.int .i64 hzx) := hbp2.cell 1
            have p2 : w2.cell? ⟨w1.heap.size, 2, none⟩ = some (.string fx) := hbp2.cell 2
            have p3 : w2.cell? ⟨w1.heap.size, 3, none⟩ = some (.string lx) := hbp2.cell 3
            have lp := hbp2.lt
            have hx3 := (HX1.out.trans hx2).alloc #[.pointer none, .int .i64 (-1), .string fy, .string ly] 222
            have HS3 := Lib.hid (HS.out.ext hx3)
            have HW3 := Lib.hid hx3
            clear hx2 hx3 hbp2
            gi_wp2_with fail
            refine ⟨trivial, ?_⟩
            refine (callsIn_wide.2 (open_any HS3.out.cx hnx (HOX.out a (List.mem_of_getLast? (x.node_some hnx).2.2)))).mono ?_
            rintro e w4 ⟨rfl, E4, r4, hc4, hst4, hE4, hr4⟩
            have HS9 := Lib.hid (HS3.out.movX hst4 hc4 hE4 hr4)
            have HST := Lib.hid (show Step x y x.open_ y [] from .openX hnx hne (.inr (.inr ⟨by rw [← HLX.out, ← HFY.out]; exact HLT.out, by rw [← HLY.out, ← HFX.out]; exact HGT.out, hngy, by rw [y.height_entry hey]; omega⟩)))
            have HRN := Lib.hid (show Run x0 y0 x.open_ y (pre.map CE.c) by have := HRUN.out.step HST.out; rwa [List.append_nil] at this)
            clear hc4 hst4 hE4 hr4
            clear p0 p1 p2 p3 lp
            gi_wp2_with fail
            gi_roundg (x.open_.wt + y.wt)
            case rel => exact ⟨x.open_, y, _, _, _, _, _, _, _, _, rfl, HS9.out, HRN.out⟩
            case measure => exact HST.out.wt
      · skip
        have hngy : ¬ y.gone := fun h => by have := (y.node_some hny).2.2; rw [h.2] at this; cases this
        have HFY := Lib.hid hf1
        have HLY := Lib.hid hl1
        have HB := Lib.hid hB
        have HZY := Lib.hid hz1
        have hz0y : (-1 : Int) < hzy := by omega
        have hz0y' : ¬ hzy < (-1 : Int) := by omega
        clear hf1 hl1 hB hz1
        have hA' := HA.out
        have hB' := HB.out
        by_cases hab : a.at_ = b.at_
        · skip
          have hAB : (decide (some A = some B)) = true := by rw [hA'.trans (congrArg (fun z => (⟨z, 0, none⟩ : Addr)) hab), hB']; simp
          have HAB := Lib.hid hAB
          have HNY := Lib.hid (show y.node = some a by rw [hny, node_same (HS.out.cx.nodes a (List.mem_of_getLast? (x.node_some hnx).2.2)) (HS.out.cy.nodes b (List.mem_of_getLast? (y.node_some hny).2.2)) hab])
          clear hA' hB' hab hAB
          gi_wp2_with fail
          refine ⟨trivial, ?_⟩
          refine (callsIn_wide.2 (HHX.out wr (Ext.refl wr))).mono ?_
          rintro e w1 ⟨rfl, hx1⟩
          have hx1' := hx1.alloc #[.pointer (some A), .int .i64 hzx, .string fx, .string lx] 222
          have hbp := Blk.new w1 222 #[.pointer (some A), .int .i64 hzx, .string fx, .string lx]
          have HX1 := Lib.hid hx1'
          have HBP := Lib.hid hbp
          clear hx1 hx1' hbp
          gi_wp2_with fail
          refine ⟨trivial, ?_⟩
          refine (callsIn_wide.2 (HHY.out _ HX1.out)).mono ?_
          rintro e w2 ⟨rfl, hx2⟩
          have hbp2 := HBP.out.ext hx2
          have p0 : w2.cell? ⟨w1.heap.size, 0, none⟩ = some (.pointer (some A)) := hbp2.cell 0
          have p1 : w2.cell? ⟨w1.heap.size, 1, none⟩ = some (.int .i64 hzx) := hbp2.cell 1
          have p2 : w2.cell? ⟨w1.heap.size, 2, none⟩ = some (.string fx) := hbp2.cell 2
          have p3 : w2.cell? ⟨w1.heap.size, 3, none⟩ = some (.string lx) := hbp2.cell 3
          have lp := hbp2.lt
          have hx3 := (HX1.out.trans hx2).alloc #[.pointer (some B), .int .i64 hzy, .string fy, .string ly] 222
          have HS3 := Lib.hid (HS.out.ext hx3)
          have HW3 := Lib.hid hx3
          clear hx2 hx3 hbp2
          have heq : (binOp .eql 28 (.pointer (some A)) (.pointer (some B))).run Try.prog (w2.alloc (.cells #[.pointer (some B), .int .i64 hzy, .string fy, .string ly] 222)) = .ok (.bool true) (w2.alloc (.cells #[.pointer (some B), .int .i64 hzy, .string fy, .string ly] 222)) := by
            have := eql_ptr_any9 (w2.alloc (.cells #[.pointer (some B), .int .i64 hzy, .string fy, .string ly] 222)) (some A) (some B) ((HS3.out.cx.nodes a (List.mem_of_getLast? (x.node_some hnx).2.2)).leads9 (by rw [HA.out]; rfl)) ((HS3.out.cy.nodes b (List.mem_of_getLast? (y.node_some hny).2.2)).leads9 (by rw [HB.out]; rfl))
            rw [this, HAB.out]
          gi_wp2_with fail
          refine ⟨trivial, ?_⟩
          refine (callsIn_wide.2 (skip_cur HS3.out.cx hnx)).mono ?_
          rintro e w4 ⟨rfl, hc4, hst4⟩
          have hS4 := HS3.out.movX (hst4.mono fun i _ hi => .inl hi) hc4 (fun b hb => .inl hb) (fun b hb => .inl hb)
          have HS4 := Lib.hid hS4
          clear hc4 hst4 hS4 p0 p1 p2 p3 lp
          gi_wp2_with fail
          refine ⟨trivial, ?_⟩
          refine (callsIn_wide.2 (skip_cur HS4.out.cy HNY.out)).mono ?_
          rintro e w5 ⟨rfl, hc5, hst5⟩
          have HS9 := Lib.hid (HS4.out.movY (hst5.mono fun i _ hi => .inl hi) hc5 (fun b hb => .inl hb) (fun b hb => .inl hb))
          have HST := Lib.hid (show Step x y x.skip y.skip [] from .skip hnx HNY.out)
          have HRN := Lib.hid (show Run x0 y0 x.skip y.skip (pre.map CE.c) by have := HRUN.out.step HST.out; rwa [List.append_nil] at this)
          clear hc5 hst5
          gi_wp2_with fail
          gi_roundg (x.skip.wt + y.skip.wt)
          case rel => exact ⟨x.skip, y.skip, _, _, _, _, _, _, _, _, rfl, HS9.out, HRN.out⟩
          case measure => exact HST.out.wt
        · skip
          have hAB : (decide (some A = some B)) = false := decide_eq_false fun h => by
            simp only [Option.some.injEq] at h
            rw [hA', hB', Addr.mk.injEq] at h
            exact hab h.1
          have HAB := Lib.hid hAB
          have hne : ¬ sameN x y := fun ⟨a', b', h1, h2, h3⟩ => by
            rw [hnx] at h1; rw [hny] at h2
            obtain rfl : a = a' := by simpa using h1
            obtain rfl : b = b' := by simpa using h2
            exact hab h3
          clear hA' hB' hab hAB
          cases hlt : klt lx fy with
          | true =>
            have hlt' : Op.bytesLess lx.toList fy.toList = true := hlt
            have HLT := Lib.hid hlt
            gi_wp2_with fail
            refine ⟨trivial, ?_⟩
            refine (callsIn_wide.2 (HHX.out wr (Ext.refl wr))).mono ?_
            rintro e w1 ⟨rfl, hx1⟩
            have hx1' := hx1.alloc #[.pointer (some A), .int .i64 hzx, .string fx, .string lx] 222
            have hbp := Blk.new w1 222 #[.pointer (some A), .int .i64 hzx, .string fx, .string lx]
            have HX1 := Lib.hid hx1'
            have HBP := Lib.hid hbp
            clear hx1 hx1' hbp
            gi_wp2_with fail
            refine ⟨trivial, ?_⟩
            refine (callsIn_wide.2 (HHY.out _ HX1.out)).mono ?_
            rintro e w2 ⟨rfl, hx2⟩
            have hbp2 := HBP.out.ext hx2
            have p0 : w2.cell? ⟨w1.heap.size, 0, none⟩ = some (.pointer (some A)) := hbp2.cell 0
            have p1 : w2.cell? ⟨w1.heap.size, 1, none⟩ = some (.int .i64 hzx) := hbp2.cell 1
            have p2 : w2.cell? ⟨w1.heap.size, 2, none⟩ = some (.string fx) := hbp2.cell 2
            have p3 : w2.cell? ⟨w1.heap.size, 3, none⟩ = some (.string lx) := hbp2.cell 3
            have lp := hbp2.lt
            have hx3 := (HX1.out.trans hx2).alloc #[.pointer (some B), .int .i64 hzy, .string fy, .string ly] 222
            have HS3 := Lib.hid (HS.out.ext hx3)
            have HW3 := Lib.hid hx3
            clear hx2 hx3 hbp2
            have heq : (binOp .eql 28 (.pointer (some A)) (.pointer (some B))).run Try.prog (w2.alloc (.cells #[.pointer (some B), .int .i64 hzy, .string fy, .string ly] 222)) = .ok (.bool false) (w2.alloc (.cells #[.pointer (some B), .int .i64 hzy, .string fy, .string ly] 222)) := by
              have := eql_ptr_any9 (w2.alloc (.cells #[.pointer (some B), .int .i64 hzy, .string fy, .string ly] 222)) (some A) (some B) ((HS3.out.cx.nodes a (List.mem_of_getLast? (x.node_some hnx).2.2)).leads9 (by rw [HA.out]; rfl)) ((HS3.out.cy.nodes b (List.mem_of_getLast? (y.node_some hny).2.2)).leads9 (by rw [HB.out]; rfl))
              rw [this, HAB.out]
            gi_wp2_with fail
            refine ⟨trivial, ?_⟩
            refine (callsIn_wide.2 (open_any HS3.out.cx hnx (HOX.out a (List.mem_of_getLast? (x.node_some hnx).2.2)))).mono ?_
            rintro e w4 ⟨rfl, E4, r4, hc4, hst4, hE4, hr4⟩
            have HS9 := Lib.hid (HS3.out.movX hst4 hc4 hE4 hr4)
            have HST := Lib.hid (show Step x y x.open_ y [] from .openX hnx hne (.inr (.inl (by rw [← HLX.out, ← HFY.out]; exact HLT.out))))
            have HRN := Lib.hid (show Run x0 y0 x.open_ y (pre.map CE.c) by have := HRUN.out.step HST.out; rwa [List.append_nil] at this)
            clear hc4 hst4 hE4 hr4
            clear p0 p1 p2 p3 lp
            gi_wp2_with fail
            gi_roundg (x.open_.wt + y.wt)
            case rel => exact ⟨x.open_, y, _, _, _, _, _, _, _, _, rfl, HS9.out, HRN.out⟩
            case measure => exact HST.out.wt
          | false =>
            have hlt' : Op.bytesLess lx.toList fy.toList = false := hlt
            have HLT := Lib.hid hlt
            cases hgt : klt ly fx with
            | true =>
              have hgt' : Op.bytesLess ly.toList fx.toList = true := hgt
              have HGT := Lib.hid hgt
              gi_wp2_with fail
              refine ⟨trivial, ?_⟩
              refine (callsIn_wide.2 (HHX.out wr (Ext.refl wr))).mono ?_
              rintro e w1 ⟨rfl, hx1⟩
              have hx1' := hx1.alloc #[.pointer (some A), .int .i64 hzx, .string fx, .string lx] 222
              have hbp := Blk.new w1 222 #[.pointer (some A), .int .i64 hzx, .string fx, .string lx]
              have HX1 := Lib.hid hx1'
              have HBP := Lib.hid hbp
              clear hx1 hx1' hbp
              gi_wp2_with fail
              refine ⟨trivial, ?_⟩
              refine (callsIn_wide.2 (HHY.out _ HX1.out)).mono ?_
              rintro e w2 ⟨rfl, hx2⟩
              have hbp2 := HBP.out.ext hx2
              have p0 : w2.cell? ⟨w1.heap.size, 0, none⟩ = some (.pointer (some A)) := hbp2.cell 0
              have p1 : w2.cell? ⟨w1.heap.size, 1, none⟩ = some (.int .i64 hzx) := hbp2.cell 1
              have p2 : w2.cell? ⟨w1.heap.size, 2, none⟩ = some (.string fx) := hbp2.cell 2
              have p3 : w2.cell? ⟨w1.heap.size, 3, none⟩ = some (.string lx) := hbp2.cell 3
              have lp := hbp2.lt
              have hx3 := (HX1.out.trans hx2).alloc #[.pointer (some B), .int .i64 hzy, .string fy, .string ly] 222
              have HS3 := Lib.hid (HS.out.ext hx3)
              have HW3 := Lib.hid hx3
              clear hx2 hx3 hbp2
              have heq : (binOp .eql 28 (.pointer (some A)) (.pointer (some B))).run Try.prog (w2.alloc (.cells #[.pointer (some B), .int .i64 hzy, .string fy, .string ly] 222)) = .ok (.bool false) (w2.alloc (.cells #[.pointer (some B), .int .i64 hzy, .string fy, .string ly] 222)) := by
                have := eql_ptr_any9 (w2.alloc (.cells #[.pointer (some B), .int .i64 hzy, .string fy, .string ly] 222)) (some A) (some B) ((HS3.out.cx.nodes a (List.mem_of_getLast? (x.node_some hnx).2.2)).leads9 (by rw [HA.out]; rfl)) ((HS3.out.cy.nodes b (List.mem_of_getLast? (y.node_some hny).2.2)).leads9 (by rw [HB.out]; rfl))
                rw [this, HAB.out]
              gi_wp2_with fail
              refine ⟨trivial, ?_⟩
              refine (callsIn_wide.2 (open_any HS3.out.cy hny (HOY.out b (List.mem_of_getLast? (y.node_some hny).2.2)))).mono ?_
              rintro e w4 ⟨rfl, E4, r4, hc4, hst4, hE4, hr4⟩
              have HS9 := Lib.hid (HS3.out.movY hst4 hc4 hE4 hr4)
              have HST := Lib.hid (show Step x y x y.open_ [] from .openY hny hne (.inr (.inl (by rw [← HLY.out, ← HFX.out]; exact HGT.out))))
              have HRN := Lib.hid (show Run x0 y0 x y.open_ (pre.map CE.c) by have := HRUN.out.step HST.out; rwa [List.append_nil] at this)
              clear hc4 hst4 hE4 hr4
              clear p0 p1 p2 p3 lp
              gi_wp2_with fail
              gi_roundg (x.wt + y.open_.wt)
              case rel => exact ⟨x, y.open_, _, _, _, _, _, _, _, _, rfl, HS9.out, HRN.out⟩
              case measure => exact HST.out.wt
            | false =>
              have hgt' : Op.bytesLess ly.toList fx.toList = false := hgt
              have HGT := Lib.hid hgt
              by_cases hg : hzy < hzx
              · have HG := Lib.hid hg
                gi_wp2_with fail
                refine ⟨trivial, ?_⟩
                refine (callsIn_wide.2 (HHX.out wr (Ext.refl wr))).mono ?_
                rintro e w1 ⟨rfl, hx1⟩
                have hx1' := hx1.alloc #[.pointer (some A), .int .i64 hzx, .string fx, .string lx] 222
                have hbp := Blk.new w1 222 #[.pointer (some A), .int .i64 hzx, .string fx, .string lx]
                have HX1 := Lib.hid hx1'
                have HBP := Lib.hid hbp
                clear hx1 hx1' hbp
                gi_wp2_with fail
                refine ⟨trivial, ?_⟩
                refine (callsIn_wide.2 (HHY.out _ HX1.out)).mono ?_
                rintro e w2 ⟨rfl, hx2⟩
                have hbp2 := HBP.out.ext hx2
                have p0 : w2.cell? ⟨w1.heap.size, 0, none⟩ = some (.pointer (some A)) := hbp2.cell 0
                have p1 : w2.cell? ⟨w1.heap.size, 1, none⟩ = some (.int .i64 hzx) := hbp2.cell 1
                have p2 : w2.cell? ⟨w1.heap.size, 2, none⟩ = some (.string fx) := hbp2.cell 2
                have p3 : w2.cell? ⟨w1.heap.size, 3, none⟩ = some (.string lx) := hbp2.cell 3
                have lp := hbp2.lt
                have hx3 := (HX1.out.trans hx2).alloc #[.pointer (some B), .int .i64 hzy, .string fy, .string ly] 222
                have HS3 := Lib.hid (HS.out.ext hx3)
                have HW3 := Lib.hid hx3
                clear hx2 hx3 hbp2
                have heq : (binOp .eql 28 (.pointer (some A)) (.pointer (some B))).run Try.prog (w2.alloc (.cells #[.pointer (some B), .int .i64 hzy, .string fy, .string ly] 222)) = .ok (.bool false) (w2.alloc (.cells #[.pointer (some B), .int .i64 hzy, .string fy, .string ly] 222)) := by
                  have := eql_ptr_any9 (w2.alloc (.cells #[.pointer (some B), .int .i64 hzy, .string fy, .string ly] 222)) (some A) (some B) ((HS3.out.cx.nodes a (List.mem_of_getLast? (x.node_some hnx).2.2)).leads9 (by rw [HA.out]; rfl)) ((HS3.out.cy.nodes b (List.mem_of_getLast? (y.node_some hny).2.2)).leads9 (by rw [HB.out]; rfl))
                  rw [this, HAB.out]
                gi_wp2_with fail
                refine ⟨trivial, ?_⟩
                refine (callsIn_wide.2 (open_any HS3.out.cx hnx (HOX.out a (List.mem_of_getLast? (x.node_some hnx).2.2)))).mono ?_
                rintro e w4 ⟨rfl, E4, r4, hc4, hst4, hE4, hr4⟩
                have HS9 := Lib.hid (HS3.out.movX hst4 hc4 hE4 hr4)
                have HST := Lib.hid (show Step x y x.open_ y [] from .openX hnx hne (.inr (.inr ⟨by rw [← HLX.out, ← HFY.out]; exact HLT.out, by rw [← HLY.out, ← HFX.out]; exact HGT.out, hngy, by rw [y.height_node hny, ← HZX.out, ← HZY.out]; exact HG.out⟩)))
                have HRN := Lib.hid (show Run x0 y0 x.open_ y (pre.map CE.c) by have := HRUN.out.step HST.out; rwa [List.append_nil] at this)
                clear hc4 hst4 hE4 hr4
                clear p0 p1 p2 p3 lp
                gi_wp2_with fail
                gi_roundg (x.open_.wt + y.wt)
                case rel => exact ⟨x.open_, y, _, _, _, _, _, _, _, _, rfl, HS9.out, HRN.out⟩
                case measure => exact HST.out.wt
              · have HG := Lib.hid hg
                by_cases hg2 : hzx < hzy
                · skip
                  gi_wp2_with fail
                  refine ⟨trivial, ?_⟩
                  refine (callsIn_wide.2 (HHX.out wr (Ext.refl wr))).mono ?_
                  rintro e w1 ⟨rfl, hx1⟩
                  have hx1' := hx1.alloc #[.pointer (some A), .int .i64 hzx, .string fx, .string lx] 222
                  have hbp := Blk.new w1 222 #[.pointer (some A), .int .i64 hzx, .string fx, .string lx]
                  have HX1 := Lib.hid hx1'
                  have HBP := Lib.hid hbp
                  clear hx1 hx1' hbp
                  gi_wp2_with fail
                  refine ⟨trivial, ?_⟩
                  refine (callsIn_wide.2 (HHY.out _ HX1.out)).mono ?_
                  rintro e w2 ⟨rfl, hx2⟩
                  have hbp2 := HBP.out.ext hx2
                  have p0 : w2.cell? ⟨w1.heap.size, 0, none⟩ = some (.pointer (some A)) := hbp2.cell 0
                  have p1 : w2.cell? ⟨w1.heap.size, 1, none⟩ = some (.int .i64 hzx) := hbp2.cell 1
                  have p2 : w2.cell? ⟨w1.heap.size, 2, none⟩ = some (.string fx) := hbp2.cell 2
                  have p3 : w2.cell? ⟨w1.heap.size, 3, none⟩ = some (.string lx) := hbp2.cell 3
                  have lp := hbp2.lt
                  have hx3 := (HX1.out.trans hx2).alloc #[.pointer (some B), .int .i64 hzy, .string fy, .string ly] 222
                  have HS3 := Lib.hid (HS.out.ext hx3)
                  have HW3 := Lib.hid hx3
                  clear hx2 hx3 hbp2
                  have heq : (binOp .eql 28 (.pointer (some A)) (.pointer (some B))).run Try.prog (w2.alloc (.cells #[.pointer (some B), .int .i64 hzy, .string fy, .string ly] 222)) = .ok (.bool false) (w2.alloc (.cells #[.pointer (some B), .int .i64 hzy, .string fy, .string ly] 222)) := by
                    have := eql_ptr_any9 (w2.alloc (.cells #[.pointer (some B), .int .i64 hzy, .string fy, .string ly] 222)) (some A) (some B) ((HS3.out.cx.nodes a (List.mem_of_getLast? (x.node_some hnx).2.2)).leads9 (by rw [HA.out]; rfl)) ((HS3.out.cy.nodes b (List.mem_of_getLast? (y.node_some hny).2.2)).leads9 (by rw [HB.out]; rfl))
                    rw [this, HAB.out]
                  gi_wp2_with fail
                  refine ⟨trivial, ?_⟩
                  refine (callsIn_wide.2 (open_any HS3.out.cy hny (HOY.out b (List.mem_of_getLast? (y.node_some hny).2.2)))).mono ?_
                  rintro e w4 ⟨rfl, E4, r4, hc4, hst4, hE4, hr4⟩
                  have HS9 := Lib.hid (HS3.out.movY hst4 hc4 hE4 hr4)
                  have HST := Lib.hid (show Step x y x y.open_ [] from .openY hny hne (.inr (.inr ⟨by rw [← HLX.out, ← HFY.out]; exact HLT.out, by rw [← HLY.out, ← HFX.out]; exact HGT.out, hngx, by rw [x.height_node hnx, ← HZX.out, ← HZY.out]; exact HG.out⟩)))
                  have HRN := Lib.hid (show Run x0 y0 x y.open_ (pre.map CE.c) by have := HRUN.out.step HST.out; rwa [List.append_nil] at this)
                  clear hc4 hst4 hE4 hr4
                  clear p0 p1 p2 p3 lp
                  gi_wp2_with fail
                  gi_roundg (x.wt + y.open_.wt)
                  case rel => exact ⟨x, y.open_, _, _, _, _, _, _, _, _, rfl, HS9.out, HRN.out⟩
                  case measure => exact HST.out.wt
                · skip
                  gi_wp2_with fail
                  refine ⟨trivial, ?_⟩
                  refine (callsIn_wide.2 (HHX.out wr (Ext.refl wr))).mono ?_
                  rintro e w1 ⟨rfl, hx1⟩
                  have hx1' := hx1.alloc #[.pointer (some A), .int .i64 hzx, .string fx, .string lx] 222
                  have hbp := Blk.new w1 222 #[.pointer (some A), .int .i64 hzx, .string fx, .string lx]
                  have HX1 := Lib.hid hx1'
                  have HBP := Lib.hid hbp
                  clear hx1 hx1' hbp
                  gi_wp2_with fail
                  refine ⟨trivial, ?_⟩
                  refine (callsIn_wide.2 (HHY.out _ HX1.out)).mono ?_
                  rintro e w2 ⟨rfl, hx2⟩
                  have hbp2 := HBP.out.ext hx2
                  have p0 : w2.cell? ⟨w1.heap.size, 0, none⟩ = some (.pointer (some A)) := hbp2.cell 0
                  have p1 : w2.cell? ⟨w1.heap.size, 1, none⟩ = some (.int .i64 hzx) := hbp2.cell 1
                  have p2 : w2.cell? ⟨w1.heap.size, 2, none⟩ = some (.string fx) := hbp2.cell 2
                  have p3 : w2.cell? ⟨w1.heap.size, 3, none⟩ = some (.string lx) := hbp2.cell 3
                  have lp := hbp2.lt
                  have hx3 := (HX1.out.trans hx2).alloc #[.pointer (some B), .int .i64 hzy, .string fy, .string ly] 222
                  have HS3 := Lib.hid (HS.out.ext hx3)
                  have HW3 := Lib.hid hx3
                  clear hx2 hx3 hbp2
                  have heq : (binOp .eql 28 (.pointer (some A)) (.pointer (some B))).run Try.prog (w2.alloc (.cells #[.pointer (some B), .int .i64 hzy, .string fy, .string ly] 222)) = .ok (.bool false) (w2.alloc (.cells #[.pointer (some B), .int .i64 hzy, .string fy, .string ly] 222)) := by
                    have := eql_ptr_any9 (w2.alloc (.cells #[.pointer (some B), .int .i64 hzy, .string fy, .string ly] 222)) (some A) (some B) ((HS3.out.cx.nodes a (List.mem_of_getLast? (x.node_some hnx).2.2)).leads9 (by rw [HA.out]; rfl)) ((HS3.out.cy.nodes b (List.mem_of_getLast? (y.node_some hny).2.2)).leads9 (by rw [HB.out]; rfl))
                    rw [this, HAB.out]
                  gi_wp2_with fail
                  refine ⟨trivial, ?_⟩
                  refine (callsIn_wide.2 (open_any HS3.out.cy hny (HOY.out b (List.mem_of_getLast? (y.node_some hny).2.2)))).mono ?_
                  rintro e w4 ⟨rfl, E4, r4, hc4, hst4, hE4, hr4⟩
                  have HS9 := Lib.hid (HS3.out.movY hst4 hc4 hE4 hr4)
                  have HST := Lib.hid (show Step x y x y.open_ [] from .openY hny hne (.inr (.inr ⟨by rw [← HLX.out, ← HFY.out]; exact HLT.out, by rw [← HLY.out, ← HFX.out]; exact HGT.out, hngx, by rw [x.height_node hnx, ← HZX.out, ← HZY.out]; exact HG.out⟩)))
                  have HRN := Lib.hid (show Run x0 y0 x y.open_ (pre.map CE.c) by have := HRUN.out.step HST.out; rwa [List.append_nil] at this)
                  clear hc4 hst4 hE4 hr4
                  clear p0 p1 p2 p3 lp
                  gi_wp2_with fail
                  gi_roundg (x.wt + y.open_.wt)
                  case rel => exact ⟨x, y.open_, _, _, _, _, _, _, _, _, rfl, HS9.out, HRN.out⟩
                  case measure => exact HST.out.wt
end Go.Proofs.Ytpapoalgocmlaaa
namespace Go.Proofs.Ytpapoalgocmlaaa
open Go.RowKit Go.Shelf
set_option linter.unusedVariables false
set_option linter.unusedSimpArgs false
def CountPost (T U : RT) (w : World) (e : Ending) (w' : World) : Prop :=
  ∃ o : Nat, e = .returned (.tuple #[.int .i64 (chg (entsT T) (entsT U)).length, .int .i64 o]) ∧ o ≤ freshR U T + freshR T U ∧ Ext w w'
set_option maxRecDepth 100000 in
set_option maxHeartbeats 4000000 in
theorem countD_any {w : World} {F F' : Nat → Prop} {T U : RT} (hT : IsT w F T) (hU : IsT w F' U) (hF : ∀ b, F b → b < w.heap.size) (hF' : ∀ b, F' b → b < w.heap.size) (ok : OkR T) (ok' : OkR U) (hl : (entsT T).length ≤ 500000) (hl' : (entsT U).length ≤ 500000) :
    Calls Try.prog 81 #[treeV T, treeV U] w (CountPost T U w) := by
  have hst1 : ∀ W', Ext w W' → Calls Try.prog 123 #[treeV T] W' (StartPost F w.heap.size T W') := fun W' hW => start_any (hT.agree (hW.agree hF)) hF hW.size (Nat.le_trans (nodesT_le ok) (by omega))
  have hst2 : ∀ W', Ext w W' → Calls Try.prog 123 #[treeV U] W' (StartPost F' w.heap.size U W') := fun W' hW => start_any (hU.agree (hW.agree hF')) hF' hW.size (Nat.le_trans (nodesT_le ok') (by omega))
  obtain ⟨p, hp⟩ := rootV_ptr T
  obtain ⟨q, hq⟩ := rootV_ptr U
  have hal : (chg (startS T).cont (startS U).cont).length ≤ 2000000 := by
    rw [startS_cont, startS_cont]
    have := chg_len (entsT T) (entsT U)
    omega
  rw [treeV, hp] at hst1 ⊢
  rw [treeV, hq] at hst2 ⊢
  have hro := fun (x y : CurS) (l : List Chg) (h : Run (startS T) (startS U) x y l) => run_opened hT hU ok ok' h
  have hdn := fun (x y : CurS) (l : List Chg) (h : Run (startS T) (startS U) x y l) (gx : x.gone) (gy : y.gone) => h.done (startS_ok ok) (startS_ok ok') gx gy
  have HF := Lib.hid hF
  have HF' := Lib.hid hF'
  have HOK := Lib.hid (startS_ok ok)
  have HOK' := Lib.hid (startS_ok ok')
  have HS1 := Lib.hid hst1
  have HS2 := Lib.hid hst2
  have HAL := Lib.hid hal
  have HRO := Lib.hid hro
  have HDN := Lib.hid hdn
  clear hT hU hF hF' ok ok' hl hl' hst1 hst2 hp hq hal hro hdn
  go_enter Try.func81, Try.ntmps81
  go_wp2_with fail
  generalize hW0 : World.alloc (World.alloc _ _) _ = W0
  obtain ⟨hx0, hz0, hb0, hb1⟩ := two_blocks w _ _ _ _ W0 hW0
  have HX0 := Lib.hid hx0
  have HSS := Lib.hid (show ∀ W1, Ext W0 W1 → W1.cell? ⟨w.heap.size, 0, none⟩ = some (.pointer p) ∧ W1.cell? ⟨w.heap.size + 1, 0, none⟩ = some (.pointer q) from fun W1 hW => ⟨(hb0.ext hW).cell 0, (hb1.ext hW).cell 0⟩)
  have hs0 := hx0.size
  clear hW0 hx0 hb0 hb1 hz0
  refine wp_region_held_drew (S := (fun w' => Ext W0 w')) (by kernel_rfl) (((Ext.refl W0).drew)) (fun hHeld => ?_)
  refine held_on (i := 0) (d := (some 9)) (v := ?_) rfl rfl (by kernel_rfl) (by kernel_rfl) (by kernel_rfl) (fun _ _ _ h => h) (by rfl) hHeld ?_ ?_
  rotate_left
  focus (intro w hSw; have hSc := HSS.out w hSw; clear hSw; go_simp; first | done | with_reducible rfl)
  try simp only [Act.put, List.setIfInBounds_toArray, List.set_cons_zero, List.set_cons_succ]
  refine held_on (i := 2) (d := (some 11)) (v := ?_) rfl rfl (by kernel_rfl) (by kernel_rfl) (by kernel_rfl) (fun _ _ _ h => h) (by rfl) hHeld ?_ ?_
  rotate_left
  focus (intro w hSw; have hSc := HSS.out w hSw; clear hSw; go_simp; first | done | with_reducible rfl)
  try simp only [Act.put, List.setIfInBounds_toArray, List.set_cons_zero, List.set_cons_succ]
  refine held_call (i := 1) (by kernel_rfl) rfl (by rfl) (fun K hK => ?_)
  go_simp
  (refine (HS1.out _ (HX0.out.trans hHeld)).mono ?_; rintro e w1 ⟨X, rx, rfl, hx1, hcx, hX, hrx⟩; have HX1 := Lib.hid (hHeld.trans hx1); have HCX := Lib.hid hcx; have HRX := Lib.hid hrx; clear hcx hx1 hrx)
  refine hK.out _ _ (HX1.out) (fun hHeld => ?_)
  clear hK K
  try simp only [Act.put, List.setIfInBounds_toArray, List.set_cons_zero, List.set_cons_succ]
  refine held_call (i := 3) (by kernel_rfl) rfl (by rfl) (fun K hK => ?_)
  go_simp
  (refine (HS2.out _ (HX0.out.trans HX1.out)).mono ?_; rintro e w2 ⟨Y, ry, rfl, hx2, hcy, hY, hry⟩; have HX2 := Lib.hid hx2; have HCY := Lib.hid hcy; have HRY := Lib.hid hry; clear hcy hx2 hry)
  refine hK.out _ _ ((HX1.out.trans HX2.out)) (fun hHeld => ?_)
  clear hK K
  try simp only [Act.put, List.setIfInBounds_toArray, List.set_cons_zero, List.set_cons_succ]
  refine held_on (i := 4) (d := (some 6)) (v := ?_) rfl rfl (by kernel_rfl) (by kernel_rfl) (by kernel_rfl) (fun _ _ _ h => h) (by rfl) hHeld ?_ ?_
  rotate_left
  focus (intro w hSw; have hSc := HSS.out w hSw; clear hSw; go_simp; first | done | with_reducible rfl)
  try simp only [Act.put, List.setIfInBounds_toArray, List.set_cons_zero, List.set_cons_succ]
  refine held_on (i := 5) (d := (some 7)) (v := ?_) rfl rfl (by kernel_rfl) (by kernel_rfl) (by kernel_rfl) (fun _ _ _ h => h) (by rfl) hHeld ?_ ?_
  rotate_left
  focus (intro w hSw; have hSc := HSS.out w hSw; clear hSw; go_simp; first | done | with_reducible rfl)
  try simp only [Act.put, List.setIfInBounds_toArray, List.set_cons_zero, List.set_cons_succ]
  refine wpAnyH_done (by kernel_rfl) ?_ _
  have hsd : W0.heap.size ≤ W0.drew.heap.size := Nat.le_refl _
  have hs1 := HX1.out.size
  have hs2 := HX2.out.size
  have hx3 := (Ext.refl w2).alloc #[.int .i64 0] 3
  have hb3 := Blk.new w2 3 #[.int .i64 0]
  have hX3 := ((HX0.out.trans HX1.out).trans HX2.out).trans hx3
  have hm : WalkM F F' w.heap.size X Y (fun _ => False) (JN w2.heap.size) w (startS T) (startS U) rx ry (fun _ => False) (fun _ => False) [] (fun b => b = w2.heap.size) (Own X Y rx ry) (w2.alloc (.cells #[.int .i64 0] 3)) (w2.alloc (.cells #[.int .i64 0] 3)) := by
    have hcx := HCX.out
    have hcy := HCY.out
    have lX := hcx.lt
    have lY := hcy.lt
    have lrx := hcx.rlt
    have lry := hcy.rlt
    have hz : (w2.alloc (.cells #[.int .i64 0] 3)).heap.size = w2.heap.size + 1 := by simp
    have hown : ∀ b, Own X Y rx ry b → w.heap.size ≤ b ∧ b < w2.heap.size := fun b hb => by
      rcases hb with rfl | rfl | hb | hb
      · exact ⟨by omega, by omega⟩
      · exact ⟨by omega, by omega⟩
      · have := lrx b hb; exact ⟨this.1, by omega⟩
      · have := lry b hb; exact ⟨this.1, this.2⟩
    have hY1 : ∀ b, (b = Y ∨ ry = some b) → w1.heap.size ≤ b := fun b hb => hb.elim (fun e => by omega) (HRY.out b)
    refine ⟨⟨hb3, rfl, fun h => by have := (hown _ h).2; omega⟩, St.refl _ _, hcx.ext (HX2.out.trans hx3), hcy.ext hx3, fun b hb => .inl hb, fun b hb => (hown b hb).1, fun b hb hh => ?_, fun b hb hh => ?_, fun b hb => ?_, fun b hb => ?_, hX3.st _, fun b hb => .inr ?_, rfl⟩
    · have hlo : w.heap.size ≤ b := hb.elim (fun e => by omega) (fun e => (lrx b e).1)
      have hup : b < w1.heap.size := hb.elim (fun e => by omega) (fun e => (lrx b e).2)
      rcases hh with h | h | h | h
      · have := HF'.out b h; omega
      · exact h
      · omega
      · have := HRY.out b h; omega
    · have hlo := hY1 b hb
      rcases hh with h | h | h | h
      · have := HF.out b h; omega
      · exact h
      · omega
      · have := (lrx b h).2; omega
    · obtain rfl : b = w2.heap.size := hb
      refine ⟨fun hh => ?_, fun hh => ?_⟩
      · rcases hh with h | h | h | h
        · have := HF.out _ h; omega
        · exact h
        · omega
        · have := (lrx _ h).2; omega
      · rcases hh with h | h | h | h
        · have := HF'.out _ h; omega
        · exact h
        · omega
        · have := (lry _ h).2; omega
    · omega
    · omega
  have hwk := diffcount_any hm HOK.out HOK'.out HAL.out
  have HWK := Lib.hid hwk
  have HX3 := Lib.hid hX3
  clear hx3 hb3 hX3 hm hwk hHeld
  go_wp2_with fail
  refine HWK.out.mono ?_
  rintro e w4 ⟨rfl, x, y, rx', ry', Ex, Ey, pre, C', D, Wj, hm, hrun, gx, gy⟩
  have hbn := hm.jn.1
  obtain ⟨es1, nd1, xs1, -, hbx, -⟩ := hm.cx.ex
  obtain ⟨es2, nd2, xs2, -, hby, -⟩ := hm.cy.ex
  have HSS4 := Lib.hid (show ∀ W1, Ext w4 W1 → W1.cell? ⟨w2.heap.size, 0, none⟩ = some (.int .i64 pre.length) ∧ W1.cell? ⟨X, 2, none⟩ = some (.int .i64 x.o) ∧ W1.cell? ⟨Y, 2, none⟩ = some (.int .i64 y.o) from fun W1 hW => ⟨(hbn.ext hW).cell 0, (hbx.ext hW).cell 2, (hby.ext hW).cell 2⟩)
  have hxo : x.o ≤ 1000000 := by have := hm.cx.few; unfold CurS.tot at this; omega
  have hyo : y.o ≤ 1000000 := by have := hm.cy.few; unfold CurS.tot at this; omega
  have HX4 := Lib.hid ((Ext.refl w).step hm.st (fun b hb => hb.elim))
  have hlen : pre.length = (chg (entsT T) (entsT U)).length := by
    have := HDN.out _ _ _ hrun gx gy
    rw [startS_cont, startS_cont] at this
    rw [this, List.length_map]
  have HOP := Lib.hid (HRO.out _ _ _ hrun)
  have HLEN := Lib.hid hlen
  have hsum : IntKind.i64.wrap ((x.o : Int) + (y.o : Int)) = (x.o : Int) + (y.o : Int) := by rw [IntKind.wrap_i64]; omega
  clear hm hrun gx gy hbn hbx hby hlen
  go_wp2_with fail
  refine wp_region_held_drew (S := (fun w' => Ext w4 w')) (by kernel_rfl) (((Ext.refl w4).drew)) (fun hHeld => ?_)
  refine held_on (i := 0) (d := (some 17)) (v := ?_) rfl rfl (by kernel_rfl) (by kernel_rfl) (by kernel_rfl) (fun _ _ _ h => h) (by rfl) hHeld ?_ ?_
  rotate_left
  focus (intro w hSw; have hSc := HSS4.out w hSw; clear hSw; go_simp; first | done | with_reducible rfl)
  try simp only [Act.put, List.setIfInBounds_toArray, List.set_cons_zero, List.set_cons_succ]
  refine held_on (i := 1) (d := (some 18)) (v := ?_) rfl rfl (by kernel_rfl) (by kernel_rfl) (by kernel_rfl) (fun _ _ _ h => h) (by rfl) hHeld ?_ ?_
  rotate_left
  focus (intro w hSw; have hSc := HSS4.out w hSw; clear hSw; go_simp; first | done | with_reducible rfl)
  try simp only [Act.put, List.setIfInBounds_toArray, List.set_cons_zero, List.set_cons_succ]
  refine held_on (i := 2) (d := (some 19)) (v := ?_) rfl rfl (by kernel_rfl) (by kernel_rfl) (by kernel_rfl) (fun _ _ _ h => h) (by rfl) hHeld ?_ ?_
  rotate_left
  focus (intro w hSw; have hSc := HSS4.out w hSw; clear hSw; go_simp; first | done | with_reducible rfl)
  try simp only [Act.put, List.setIfInBounds_toArray, List.set_cons_zero, List.set_cons_succ]
  refine held_on (i := 3) (d := (some 20)) (v := ?_) rfl rfl (by kernel_rfl) (by kernel_rfl) (by kernel_rfl) (fun _ _ _ h => h) (by rfl) hHeld ?_ ?_
  rotate_left
  focus (intro w hSw; have hSc := HSS4.out w hSw; clear hSw; go_simp; first | done | with_reducible rfl)
  try simp only [Act.put, List.setIfInBounds_toArray, List.set_cons_zero, List.set_cons_succ]
  refine held_on (i := 4) (d := (some 21)) (v := ?_) rfl rfl (by kernel_rfl) (by kernel_rfl) (by kernel_rfl) (fun _ _ _ h => h) (by rfl) hHeld ?_ ?_
  rotate_left
  focus (intro w hSw; have hSc := HSS4.out w hSw; clear hSw; go_simp; first | done | with_reducible rfl)
  try simp only [Act.put, List.setIfInBounds_toArray, List.set_cons_zero, List.set_cons_succ]
  refine held_on (i := 5) (d := (some 22)) (v := ?_) rfl rfl (by kernel_rfl) (by kernel_rfl) (by kernel_rfl) (fun _ _ _ h => h) (by rfl) hHeld ?_ ?_
  rotate_left
  focus (intro w hSw; have hSc := HSS4.out w hSw; clear hSw; go_simp; first | done | with_reducible rfl)
  try simp only [Act.put, List.setIfInBounds_toArray, List.set_cons_zero, List.set_cons_succ]
  refine held_on (i := 6) (d := (some 23)) (v := ?_) rfl rfl (by kernel_rfl) (by kernel_rfl) (by kernel_rfl) (fun _ _ _ h => h) (by rfl) hHeld ?_ ?_
  rotate_left
  focus (intro w hSw; have hSc := HSS4.out w hSw; clear hSw; go_simp; first | done | with_reducible rfl)
  try simp only [Act.put, List.setIfInBounds_toArray, List.set_cons_zero, List.set_cons_succ]
  refine held_on (i := 7) (d := (some 24)) (v := ?_) rfl rfl (by kernel_rfl) (by kernel_rfl) (by kernel_rfl) (fun _ _ _ h => h) (by rfl) hHeld ?_ ?_
  rotate_left
  focus (intro w hSw; have hSc := HSS4.out w hSw; clear hSw; go_simp; first | done | with_reducible rfl)
  try simp only [Act.put, List.setIfInBounds_toArray, List.set_cons_zero, List.set_cons_succ]
  refine held_on (i := 8) (d := (some 25)) (v := ?_) rfl rfl (by kernel_rfl) (by kernel_rfl) (by kernel_rfl) (fun _ _ _ h => h) (by rfl) hHeld ?_ ?_
  rotate_left
  focus (intro w hSw; have hSc := HSS4.out w hSw; clear hSw; go_simp; first | done | with_reducible rfl)
  try simp only [Act.put, List.setIfInBounds_toArray, List.set_cons_zero, List.set_cons_succ]
  refine held_on (i := 9) (d := (some 26)) (v := ?_) rfl rfl (by kernel_rfl) (by kernel_rfl) (by kernel_rfl) (fun _ _ _ h => h) (by rfl) hHeld ?_ ?_
  rotate_left
  focus (intro w hSw; have hSc := HSS4.out w hSw; clear hSw; go_simp; first | done | with_reducible rfl)
  try simp only [Act.put, List.setIfInBounds_toArray, List.set_cons_zero, List.set_cons_succ]
  refine held_on (i := 10) (d := (some 4)) (v := ?_) rfl rfl (by kernel_rfl) (by kernel_rfl) (by kernel_rfl) (fun _ _ _ h => h) (by rfl) hHeld ?_ ?_
  rotate_left
  focus (intro w hSw; have hSc := HSS4.out w hSw; clear hSw; go_simp; first | done | with_reducible rfl)
  try simp only [Act.put, List.setIfInBounds_toArray, List.set_cons_zero, List.set_cons_succ]
  refine held_on (i := 11) (d := (some 5)) (v := ?_) rfl rfl (by kernel_rfl) (by kernel_rfl) (by kernel_rfl) (fun _ _ _ h => h) (by rfl) hHeld ?_ ?_
  rotate_left
  focus (intro w hSw; have hSc := HSS4.out w hSw; clear hSw; go_simp; first | done | with_reducible rfl)
  try simp only [Act.put, List.setIfInBounds_toArray, List.set_cons_zero, List.set_cons_succ]
  refine wpAnyH_done (by kernel_rfl) ?_ _
  have HX5 := Lib.hid (HX4.out.trans hHeld)
  clear hHeld
  go_wp2_with fail
  go_ret2
  exact ⟨x.o + y.o, by rw [HLEN.out]; simp, HOP.out, HX5.out⟩
end Go.Proofs.Ytpapoalgocmlaaa
