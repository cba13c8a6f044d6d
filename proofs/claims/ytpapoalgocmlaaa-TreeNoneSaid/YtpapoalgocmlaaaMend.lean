/- tree.mend: a kid that is not full enough gets something, or becomes one with its neighbour. -/
import Derived.Test.YtpapoalgocmlaaaPairE
import Derived.Test.YtpapoalgocmlaaaPairN
import Derived.Test.YtpapoalgocmlaaaDeleteE
import Derived.Test.YtpapoalgocmlaaaDeleteN
import Derived.Test.YtpapoalgocmlaaaDelT
import Derived.Test.YtpapoalgocmlaaaWith2
namespace Go.Proofs.Ytpapoalgocmlaaa
open Go.RowKit
set_option linter.unusedVariables false
set_option linter.unusedSimpArgs false

/-- What pair makes of two nodes of height h: nodes whose contents are as pairL says. -/
def PairPost (F : Nat → Prop) (h : Nat) (l r : PT h) (w : World) (e : Ending) (w' : World) : Prop :=
  ∃ ts : List (PT h), e = two h ts ∧ PairR w.heap.size h l r ts ∧ (∀ u ∈ ts, IsN w' (Up F w w') h u)

theorem rd_es {w : World} {F : Nat → Prop} {s : Sl} {n : Nat} {xs : List LE} (hn : n = xs.length) (hr : Rd w F 7 s n (flatE xs)) (hv : Vals w F xs) (hf : xs.length ≤ 1000) : ES w F s xs := by
  subst hn
  exact ⟨hr, hv, by omega⟩
theorem mem_two {α : Type} {P : α → Prop} {x y : α} (hx : P x) (hy : P y) : ∀ u ∈ [x, y], P u := fun u hu => by
  rcases List.mem_cons.1 hu with rfl | hu
  · exact hx
  · obtain rfl := List.mem_singleton.1 hu; exact hy
theorem mem_one {α : Type} {P : α → Prop} {x : α} (hx : P x) : ∀ u ∈ [x], P u := fun u hu => by
  obtain rfl := List.mem_singleton.1 hu; exact hx
/-- The builder at entries. -/
theorem leaf_b {w W : World} {G : Nat → Prop} {s : Sl} {n : Nat} {xs : List LE} (hW : St G w W) (hG : ∀ b, G b → b < w.heap.size) (hn : n = xs.length) (h8 : xs.length ≤ 8) (hr : Rd W (Lt W.heap.size) 7 s n (flatE xs)) (hv : Vals w (NH G w) xs) (hrise : risingN xs) :
    Calls Try.prog 136 #[.slice s.a n s.c] W (BPostE (fun a W' => w.heap.size ≤ a ∧ IsN W' (fun b => w.heap.size ≤ b ∧ b < W'.heap.size) 0 (a, xs.map LE.ent)) W) := by
  have hes : ES W (Lt W.heap.size) s xs := rd_es hn hr ((hv.agree hW.agree).mono fun i hi => Nat.lt_of_lt_of_le hi.1 hW.size) (by omega)
  refine (tleaf_any hes hn hrise h8).mono ?_
  rintro e w' ⟨t, rfl, h1, h2, h3, h4⟩
  refine ⟨addr 0 t, rfl, h2, ⟨Nat.le_trans hW.size h2, ?_⟩, h4⟩
  have e1 : t = (t.1, xs.map LE.ent) := by rw [← h1]; rfl
  rw [e1] at h3
  exact h3.mono fun i hi => ⟨Nat.le_trans hW.size hi.1, hi.2⟩
theorem isn_stay {w W W' : World} {G : Nat → Prop} (hG : ∀ b, G b → b < w.heap.size) {h : Nat} {t : PT h} (hn : IsN W (fun b => w.heap.size ≤ b ∧ b < W.heap.size) h t) (hs : St G W W') : IsN W' (fun b => w.heap.size ≤ b ∧ b < W'.heap.size) h t :=
  (hn.agree (hs.agree.mono fun i hi => ⟨hi.2, fun hh => by have := hG i hh; omega⟩)).mono fun i hi => ⟨hi.1, Nat.lt_of_lt_of_le hi.2 hs.size⟩

theorem flatE_take' (xs : List LE) (i : Nat) : (flatE xs).take (i * 7) = flatE (xs.take i) := flatE_take xs i
set_option maxRecDepth 100000 in
theorem pairE_any {w : World} {base : Nat} {sl sr : Sl} {xs ys : List LE} (hL : OE w base sl xs) (hR : OE w base sr ys) (hb : base ≤ w.heap.size) (hne : ∀ b, sl.row = some b → sr.row ≠ some b)
    (hvl : Vals w (NH (RowsE sl sr) w) xs) (hvr : Vals w (NH (RowsE sl sr) w) ys) (hrise : risingN (xs ++ ys)) (x8 : xs.length ≤ 8) (y8 : ys.length ≤ 8) (hx : xs.length + ys.length ≤ 11) {l r : PT 0} (el : xs.map LE.ent = l.2) (er : ys.map LE.ent = r.2) :
    Calls Try.prog 186 #[.slice sl.a xs.length sl.c, .slice sr.a ys.length sr.c, .func (.func 136) #[] #[]] w fun e w' => PairPost (fun _ => False) 0 l r w e w' ∧ St (RowsE sl sr) w w' := by
  have hG : ∀ b, RowsE sl sr b → b < w.heap.size := fun b hb => hb.elim (fun h => (own_row hL.own h).2) (fun h => (own_row hR.own h).2)
  have two_of : ∀ (w' : World) (a b : Nat) (zs zs' : List LE), (w.heap.size ≤ a ∧ IsN w' (fun b => w.heap.size ≤ b ∧ b < w'.heap.size) 0 (a, zs.map LE.ent)) → (w.heap.size ≤ b ∧ IsN w' (fun b => w.heap.size ≤ b ∧ b < w'.heap.size) 0 (b, zs'.map LE.ent)) →
      pairL l.2 r.2 = [zs.map LE.ent, zs'.map LE.ent] → PairPost (fun _ => False) 0 l r w (.returned (.tuple #[.pointer (some ⟨a, 0, none⟩), .pointer (some ⟨b, 0, none⟩)])) w' := fun w' a b zs zs' ha hb hp => by
    refine ⟨[((a, zs.map LE.ent) : PT 0), ((b, zs'.map LE.ent) : PT 0)], rfl, ⟨hp.symm, mem_two (α := PT 0) ha.1 hb.1⟩, mem_two (α := PT 0) (ha.2.mono fun i hi => .inr hi) (hb.2.mono fun i hi => .inr hi)⟩
  have e1 : l.2.length = xs.length := by rw [← el, List.length_map]
  have e2 : r.2.length = ys.length := by rw [← er, List.length_map]
  by_cases h4 : 4 < xs.length
  · obtain ⟨m, hm⟩ : ∃ m, xs.length = m + 1 := ⟨xs.length - 1, by omega⟩
    have t1 : (flatE xs).take (m * 7) = flatE (xs.take m) := flatE_take xs m
    have t2 : (flatE xs).drop (m * 7) ++ flatE ys = flatE (xs.drop m ++ ys) := by rw [flatE_drop, flatE_app]
    have hLo := hL.own
    rw [hm] at hLo ⊢
    refine (pairE_left (P1 := fun a W' => w.heap.size ≤ a ∧ IsN W' (fun b => w.heap.size ≤ b ∧ b < W'.heap.size) 0 (a, (xs.take m).map LE.ent)) (P2 := fun a W' => w.heap.size ≤ a ∧ IsN W' (fun b => w.heap.size ≤ b ∧ b < W'.heap.size) 0 (a, (xs.drop m ++ ys).map LE.ent))
      hLo hR.own hb hne (flatE_one xs) (flatE_one ys) trivial (by omega) (by omega) y8 (fun W s hW hr => ?_) (fun W s hW hr => ?_) (fun a W W' _ h hs => ⟨h.1, isn_stay hG h.2 hs⟩)).mono ?_
    · rw [t1] at hr
      exact leaf_b hW hG (by rw [List.length_take]; omega) (by rw [List.length_take]; omega) hr (fun x hx => hvl x (List.mem_of_mem_take hx)) (by have := hrise.take m; rwa [List.take_append_of_le_length (by omega)] at this)
    · rw [t2] at hr
      exact leaf_b hW hG (by rw [List.length_append, List.length_drop]; omega) (by rw [List.length_append, List.length_drop]; omega) hr (fun x hx => by
        rcases List.mem_append.1 hx with hx | hx
        · exact hvl x (List.mem_of_mem_drop hx)
        · exact hvr x hx) (by have := hrise.drop m; rwa [List.drop_append_of_le_length (by omega)] at this)
    · rintro e w' ⟨a, b, rfl, -, -, h1, h2, hs⟩
      refine ⟨two_of w' a b _ _ h1 h2 ?_, hs⟩
      rw [pairL, if_pos (by omega), ← el, ← er, List.map_append, List.map_take, List.map_drop, List.length_map, hm]
      rfl
  · by_cases h5 : 4 < ys.length
    · obtain ⟨m, hm⟩ : ∃ m, ys.length = m + 1 := ⟨ys.length - 1, by omega⟩
      have t1 : flatE xs ++ (flatE ys).take 7 = flatE (xs ++ ys.take 1) := by rw [flatE_app, ← flatE_take]
      have t2 : (flatE ys).drop 7 = flatE (ys.drop 1) := by rw [← flatE_drop]
      have hRo := hR.own
      rw [hm] at hRo ⊢
      refine (pairE_right (P1 := fun a W' => w.heap.size ≤ a ∧ IsN W' (fun b => w.heap.size ≤ b ∧ b < W'.heap.size) 0 (a, (xs ++ ys.take 1).map LE.ent)) (P2 := fun a W' => w.heap.size ≤ a ∧ IsN W' (fun b => w.heap.size ≤ b ∧ b < W'.heap.size) 0 (a, (ys.drop 1).map LE.ent))
        hL.own hRo hb hne (flatE_one xs) (flatE_one ys) trivial (by omega) (by omega) (by omega) (fun W s hW hr => ?_) (fun W s hW hr => ?_) (fun a W W' _ h hs => ⟨h.1, isn_stay hG h.2 hs⟩)).mono ?_
      · rw [t1] at hr
        exact leaf_b hW hG (by rw [List.length_append, List.length_take]; omega) (by rw [List.length_append, List.length_take]; omega) hr (fun x hx => by
          rcases List.mem_append.1 hx with hx | hx
          · exact hvl x hx
          · exact hvr x (List.mem_of_mem_take hx)) (by have := hrise.take (xs.length + 1); rwa [List.take_length_add_append] at this)
      · rw [t2] at hr
        exact leaf_b hW hG (by rw [List.length_drop]; omega) (by rw [List.length_drop]; omega) hr (fun x hx => hvr x (List.mem_of_mem_drop hx)) (by have := hrise.drop (xs.length + 1); rwa [List.drop_length_add_append] at this)
      · rintro e w' ⟨a, b, rfl, -, -, h1, h2, hs⟩
        refine ⟨two_of w' a b _ _ h1 h2 ?_, hs⟩
        rw [pairL, if_neg (by omega), if_pos (by omega), ← el, ← er, List.map_append, List.map_take, List.map_drop]
    · have t1 : flatE xs ++ flatE ys = flatE (xs ++ ys) := by rw [flatE_app]
      refine (pairE_both (P1 := fun a W' => w.heap.size ≤ a ∧ IsN W' (fun b => w.heap.size ≤ b ∧ b < W'.heap.size) 0 (a, (xs ++ ys).map LE.ent)) hL.own hR.own hb (flatE_one ys) (by omega) (by omega) (fun W s hW hr => ?_)).mono ?_
      · rw [t1] at hr
        exact leaf_b hW hG (by rw [List.length_append]) (by rw [List.length_append]; omega) hr (fun x hx => by
          rcases List.mem_append.1 hx with hx | hx
          · exact hvl x hx
          · exact hvr x hx) hrise
      · rintro e w' ⟨a, rfl, -, h1, hs⟩
        refine ⟨⟨[((a, (xs ++ ys).map LE.ent) : PT 0)], rfl, ⟨?_, mem_one (α := PT 0) h1.1⟩, mem_one (α := PT 0) (h1.2.mono fun i hi => .inr hi)⟩, hs⟩
        · show [(xs ++ ys).map LE.ent] = _
          rw [pairL, if_neg (by omega), if_neg (by omega), ← el, ← er, List.map_append]

theorem isn_stay2 {w W W' : World} {F G : Nat → Prop} (hG : ∀ b, G b → b < w.heap.size) (hF : ∀ b, F b → b < w.heap.size ∧ ¬ G b) (hw : w.heap.size ≤ W.heap.size) {h : Nat} {t : PT h} (hn : IsN W (Up F w W) h t) (hs : St G W W') : IsN W' (Up F w W') h t :=
  (hn.agree (hs.agree.mono fun i hi => hi.elim (fun h => ⟨Nat.lt_of_lt_of_le (hF i h).1 hw, (hF i h).2⟩) fun h => ⟨h.2, fun hh => by have := hG i hh; omega⟩)).mono fun i hi => hi.imp_right fun h => ⟨h.1, Nat.lt_of_lt_of_le h.2 hs.size⟩
/-- The builder at kids. -/
theorem inner_b {w W : World} {F G : Nat → Prop} {h : Nat} {s : Sl} {n : Nat} {ks : List (PT h)} (hW : St G w W) (hF : ∀ b, F b → ¬ G b) (hn : n = ks.length) (h2 : 2 ≤ ks.length) (h8 : ks.length ≤ 8) (hr : Rd W (Lt W.heap.size) 1 s n (ptrs h ks)) (hk : Kids w F h ks) :
    Calls Try.prog 92 #[.slice s.a n s.c] W (BPostN (fun a W' => w.heap.size ≤ a ∧ IsN W' (Up F w W') (h + 1) (a, ks)) W) := by
  subst hn
  have hk' : Kids W F h ks := ⟨fun b hb => Nat.lt_of_lt_of_le (hk.lt b hb) hW.size, fun x hx => (hk.isn x hx).agree (hW.agree.mono fun i hi => ⟨hk.lt i hi, hF i hi⟩), hk.rise, hk.pos, hk.sz, hk.cn, hk.hh⟩
  refine (tinner_any hr rfl hk' h2 h8).mono ?_
  rintro e w' ⟨t, rfl, h1, h2, h3, h4⟩
  refine ⟨addr (h + 1) t, rfl, h2, ⟨Nat.le_trans hW.size h2, ?_⟩, h4⟩
  have e1 : t = (t.1, ks) := by subst h1; rfl
  rw [e1] at h3
  exact h3.mono fun i hi => hi.imp_right fun h => ⟨Nat.le_trans hW.size h.1, h.2⟩
theorem ptrs_ptr (h : Nat) (ks : List (PT h)) : ∀ u ∈ ptrs h ks, ∃ p, u = Value.pointer p := fun u hu => by
  obtain ⟨k, -, rfl⟩ := List.mem_map.1 hu
  exact ⟨_, rfl⟩
theorem ptrs_app (h : Nat) (a b : List (PT h)) : ptrs h (a ++ b) = ptrs h a ++ ptrs h b := by simp [ptrs]
theorem ptrs_drop (h : Nat) (a : List (PT h)) (i : Nat) : ptrs h (a.drop i) = (ptrs h a).drop i := by simp [ptrs, List.map_drop]
set_option maxRecDepth 100000 in
theorem pairN_any {w : World} {F : Nat → Prop} {base h : Nat} {sl sr : Sl} {l r : PT (h + 1)} (hL : w.ownsRow base 28 1 (.slice sl.a l.2.length sl.c) l.2.length (ptrs h l.2)) (hR : w.ownsRow base 28 1 (.slice sr.a r.2.length sr.c) r.2.length (ptrs h r.2)) (hb : base ≤ w.heap.size) (hne : ∀ b, sl.row = some b → sr.row ≠ some b)
    (hF : ∀ b, F b → ¬ RowsN sl sr b) (hk : Kids w F h (l.2 ++ r.2)) (l2 : 3 ≤ l.2.length) (r2 : 3 ≤ r.2.length) (l8 : l.2.length ≤ 8) (r8 : r.2.length ≤ 8) (hx : l.2.length + r.2.length ≤ 11) :
    Calls Try.prog 187 #[.slice sl.a l.2.length sl.c, .slice sr.a r.2.length sr.c, .func (.func 92) #[] #[]] w fun e w' => PairPost F (h + 1) l r w e w' ∧ St (RowsN sl sr) w w' := by
  have hG : ∀ b, RowsN sl sr b → b < w.heap.size := fun b hb => hb.elim (fun h => (own_row hL h).2) (fun h => (own_row hR h).2)
  have hF2 : ∀ b, F b → b < w.heap.size ∧ ¬ RowsN sl sr b := fun b hb => ⟨hk.lt b hb, hF b hb⟩
  have two_of : ∀ (w' : World) (a b : Nat) (zs zs' : List (PT h)), (w.heap.size ≤ a ∧ IsN w' (Up F w w') (h + 1) (a, zs)) → (w.heap.size ≤ b ∧ IsN w' (Up F w w') (h + 1) (b, zs')) →
      pairL l.2 r.2 = [zs, zs'] → PairPost F (h + 1) l r w (.returned (.tuple #[.pointer (some ⟨a, 0, none⟩), .pointer (some ⟨b, 0, none⟩)])) w' := fun w' a b zs zs' ha hb hp => by
    refine ⟨[((a, zs) : PT (h + 1)), ((b, zs') : PT (h + 1))], rfl, ⟨hp.symm, mem_two (α := PT (h + 1)) ha.1 hb.1⟩, mem_two (α := PT (h + 1)) ha.2 hb.2⟩
  by_cases h4 : 4 < l.2.length
  · obtain ⟨m, hm⟩ : ∃ m, l.2.length = m + 1 := ⟨l.2.length - 1, by omega⟩
    have t1 : (ptrs h l.2).take (m * 1) = ptrs h (l.2.take m) := by rw [Nat.mul_one, ptrs_take]
    have t2 : (ptrs h l.2).drop (m * 1) ++ ptrs h r.2 = ptrs h (l.2.drop m ++ r.2) := by rw [ptrs_app, ptrs_drop, Nat.mul_one]
    have hLo := hL
    rw [hm] at hLo ⊢
    refine (pairN_left (P1 := fun a W' => w.heap.size ≤ a ∧ IsN W' (Up F w W') (h + 1) (a, l.2.take m)) (P2 := fun a W' => w.heap.size ≤ a ∧ IsN W' (Up F w W') (h + 1) (a, l.2.drop m ++ r.2))
      hLo hR hb hne (ptrs_one h l.2) (ptrs_one h r.2) (ptrs_ptr h l.2) (by omega) (by omega) r8 (fun W s hW hr => ?_) (fun W s hW hr => ?_) (fun a W W' hw h hs => ⟨h.1, isn_stay2 hG hF2 hw.size h.2 hs⟩)).mono ?_
    · rw [t1] at hr
      exact inner_b hW hF (by rw [List.length_take]; omega) (by rw [List.length_take]; omega) (by rw [List.length_take]; omega) hr (by have := hk.take m; rwa [List.take_append_of_le_length (by omega)] at this)
    · rw [t2] at hr
      exact inner_b hW hF (by rw [List.length_append, List.length_drop]; omega) (by rw [List.length_append, List.length_drop]; omega) (by rw [List.length_append, List.length_drop]; omega) hr (by have := hk.drop m; rwa [List.drop_append_of_le_length (by omega)] at this)
    · rintro e w' ⟨a, b, rfl, -, -, h1, h2, hs⟩
      refine ⟨two_of w' a b _ _ h1 h2 ?_, hs⟩
      rw [pairL, if_pos (by omega), hm]
      rfl
  · by_cases h5 : 4 < r.2.length
    · obtain ⟨m, hm⟩ : ∃ m, r.2.length = m + 1 := ⟨r.2.length - 1, by omega⟩
      have t1 : ptrs h l.2 ++ (ptrs h r.2).take 1 = ptrs h (l.2 ++ r.2.take 1) := by rw [ptrs_app, ptrs_take]
      have t2 : (ptrs h r.2).drop 1 = ptrs h (r.2.drop 1) := by rw [ptrs_drop]
      have hRo := hR
      rw [hm] at hRo ⊢
      refine (pairN_right (P1 := fun a W' => w.heap.size ≤ a ∧ IsN W' (Up F w W') (h + 1) (a, l.2 ++ r.2.take 1)) (P2 := fun a W' => w.heap.size ≤ a ∧ IsN W' (Up F w W') (h + 1) (a, r.2.drop 1))
        hL hRo hb hne (ptrs_one h l.2) (ptrs_one h r.2) (ptrs_ptr h r.2) (by omega) (by omega) (by omega) (fun W s hW hr => ?_) (fun W s hW hr => ?_) (fun a W W' hw h hs => ⟨h.1, isn_stay2 hG hF2 hw.size h.2 hs⟩)).mono ?_
      · rw [t1] at hr
        exact inner_b hW hF (by rw [List.length_append, List.length_take]; omega) (by rw [List.length_append, List.length_take]; omega) (by rw [List.length_append, List.length_take]; omega) hr (by have := hk.take (l.2.length + 1); rwa [List.take_length_add_append] at this)
      · rw [t2] at hr
        exact inner_b hW hF (by rw [List.length_drop]; omega) (by rw [List.length_drop]; omega) (by rw [List.length_drop]; omega) hr (by have := hk.drop (l.2.length + 1); rwa [List.drop_length_add_append] at this)
      · rintro e w' ⟨a, b, rfl, -, -, h1, h2, hs⟩
        refine ⟨two_of w' a b _ _ h1 h2 ?_, hs⟩
        rw [pairL, if_neg (by omega), if_pos (by omega)]
    · have t1 : ptrs h l.2 ++ ptrs h r.2 = ptrs h (l.2 ++ r.2) := by rw [ptrs_app]
      refine (pairN_both (P1 := fun a W' => w.heap.size ≤ a ∧ IsN W' (Up F w W') (h + 1) (a, l.2 ++ r.2)) hL hR hb (ptrs_one h r.2) (by omega) (by omega) (fun W s hW hr => ?_)).mono ?_
      · rw [t1] at hr
        exact inner_b hW hF (by rw [List.length_append]) (by rw [List.length_append]; omega) (by rw [List.length_append]; omega) hr hk
      · rintro e w' ⟨a, rfl, -, h1, hs⟩
        refine ⟨⟨[((a, l.2 ++ r.2) : PT (h + 1))], rfl, ⟨?_, mem_one (α := PT (h + 1)) h1.1⟩, mem_one (α := PT (h + 1)) h1.2⟩, hs⟩
        · show [l.2 ++ r.2] = _
          rw [pairL, if_neg (by omega), if_neg (by omega)]
end Go.Proofs.Ytpapoalgocmlaaa
