/- What the theorem needs of the texts DiffE, Get9, RefC9, TrodI, KeepI, Play9, Pl9: no condition of its own. -/
import Derived.Test.YtpapoalgocmlaaaPda
import Derived.Test.YtpapoalgocmlaaaPdb
import Derived.Test.YtpapoalgocmlaaaPdc
import Derived.Test.YtpapoalgocmlaaaPdd
import Derived.Test.YtpapoalgocmlaaaPde
import Derived.Test.YtpapoalgocmlaaaPdf
import Derived.Test.YtpapoalgocmlaaaPdg
import Derived.Test.YtpapoalgocmlaaaPdh
namespace Go.Proofs.Ytpapoalgocmlaaa
open Go.RowKit Go.Shelf
set_option linter.unusedVariables false
set_option linter.unusedSimpArgs false
theorem wpIn_meet9 {F : Fence} {n : Nat} {P : Program} {c : Code} {Q : Exit → Act → World → Prop} {a : Act} {w : World} (Rw : World → Prop) (ds : List Nat) (last : Nat × Value)
    (h1 : c.wpIn F n P (onlyM fun a' w' => Rw w' ∧ a'.defers = a.defers ∧ a'.tmps = putT a.tmps ((ds.map fun d => (d, a'.tmps.getD d undef)) ++ [last])) a w)
    (h2 : ∀ (w' : World) (vs : Nat → Value), Rw w' → Q .normal { tmps := putT a.tmps ((ds.map fun d => (d, vs d)) ++ [last]), defers := a.defers } w') : c.wpIn F n P Q a w :=
  wpIn_mono h1 fun e a' w' h => by
    cases e with
    | normal =>
      obtain ⟨hr, hd, ht⟩ := h
      have := h2 w' (fun d => a'.tmps.getD d undef) hr
      rw [← ht, ← hd] at this
      exact this
    | _ => exact h.elim
theorem eql_func_nil9 {P : Program} (w : World) {t : TypeId} {ps rs : Array TypeId} {b : Bool} (f : Fn) (ta lb : Array Value) (hp : P.underlying t = some (.func ps rs b)) :
    (binOp .eql t (.func f ta lb) .nilFunc).run P w = .ok (.bool false) w := by
  have h : ∀ d : Nat, (Op.equalIn (d + 1) t (.func f ta lb) .nilFunc).run P w = .ok false w := fun d => by
    simp [Op.equalIn, run_underlying hp]
  simp only [binOp]
  simp [Op.equal, Op.maxDepth, h 9999]
theorem CS.pre9 {w : World} {F : Nat → Prop} {s : Sl} {xs : List CE} (h : CS w F s xs) {n : Nat} (hn : n ≤ xs.length) (h0 : 0 < xs.length) : CS w F s (xs.take n) := by
  obtain ⟨⟨b, o, h1, h2, h3⟩, hv, hf⟩ := h
  obtain ⟨e1, e2, e3⟩ := h1.eq h0
  have hF := h1.fits h0
  have hl : (xs.take n).length = n := by rw [List.length_take, Nat.min_eq_left hn]
  obtain ⟨sa, sc⟩ := s
  dsimp only at e1 e2 e3
  subst e1
  refine ⟨⟨b, o, by rw [hl]; exact .some _ _ _ _ (by omega) e3 hF, by rw [flatC_len], fun j u hj => h3 j u ?_⟩, fun x hx => hv x (List.mem_of_mem_take hx), by rw [hl]; omega⟩
  have hsp : flatC xs = flatC (xs.take n) ++ flatC (xs.drop n) := by
    have h := congrArg flatC (List.take_append_drop n xs).symm
    exact h.trans (List.flatMap_append ..)
  rw [hsp, List.getElem?_append_left (List.getElem?_eq_some_iff.1 hj).1]
  exact hj
set_option maxHeartbeats 1000000 in
theorem wpIn_rangeC3_block {α : Type} {n id : Nat} {P : Program} {g : Operand} {ps : Array Tmp} {assign body : Code} {Q : Exit → Act → World → Prop} {a : Act} {w : World}
    {gf : Nat} {lb : Array Value} (hg : a.eval g = .func (.func gf) #[] lb) (eg : ∀ args w, (callFunc gf args).run P w = .ok (.enter gf args) w)
    {encs : α → Array Value} {K : Nat → Prop} {G : Nat → List α → α → (Nat → Prop) → World → Prop} {S Sp : List α → Prop} {w0 : World} (hseq : SeqC3 P gf lb encs K G S Sp w0)
    (hA : Agree K w0 w) (hsz : w0.heap.size ≤ w.heap.size) (hK : ∀ b, K b → b < w.heap.size) (hps : ∀ x, (encs x).size = ps.size)
    (I : List α → (Nat → Prop) → (Nat → Prop) → World → Prop) (Ix : List α → (Nat → Prop) → World → Prop) (C₀ : Nat → Prop) (hC : ∀ b, C₀ b → b < w.heap.size ∧ ¬ K b)
    (hI : ∀ {s C D W W'}, I s C D W → St (fun b => b = w.heap.size + 1) W W' → I s C D W') (hIx : ∀ {s D W W'}, Ix s D W → St (fun b => b = w.heap.size + 1) W W' → Ix s D W')
    (h0 : ∀ W, Ext w W → w.heap.size + 2 ≤ W.heap.size → I [] C₀ (fun _ => False) W)
    (hround : ∀ (pre : List α) (C D D1 : Nat → Prop) (x : α) (W0 W1 : World), I pre C D W0 → (∀ b, C b → b < W0.heap.size) → w.heap.size + 2 ≤ W0.heap.size → ¬ C (w.heap.size + 1) → St D W0 W1 → (∀ b, D1 b → D b ∨ W0.heap.size ≤ b) → (∀ b, D1 b → w.heap.size + 2 ≤ b ∧ b < W1.heap.size) → (∀ b, C b → ¬ D1 b) → G (w.heap.size + 2) pre x (fun b => D1 b ∨ (C b ∨ b = w.heap.size + 1)) W1 →
      assign.wpIn (Fence.wide.inRound (w.heap.size + 1)) 4 P (Exit.then (fun a1 W2 => Ext W1 W2 ∧ ∀ W3, St (fun b => b = w.heap.size + 1) W2 W3 → body.wpIn (Fence.wide.inRound (w.heap.size + 1)) 4 P (ownPostC3 C D1 I (fun c s D W => c = .exit id ∧ Ix s D W) (pre ++ [x]) W3) a1 W3) (fun _ _ _ => False))
        { tmps := (ps.zip (encs x)).foldl (fun t (p, v) => t.setIfInBounds p v) a.tmps, defers := [] } W1)
    (hend : ∀ (D : Nat) (Di : Nat → Prop) (W0 W : World), D = w.heap.size → ((∃ xs C, S xs ∧ I xs C Di W0) ∨ (∃ pre, Sp pre ∧ Ix pre Di W0)) → St (fun b => Di b ∨ b = w.heap.size + 1) W0 W → (∀ b, Di b → w.heap.size + 2 ≤ b) → W.heap[D]? = some (.deferred (some [])) → Q .normal { a with defers := { target := .collected D, args := #[] } :: a.defers } W) :
    (Code.rangeFunc g ps assign body).wpIn Fence.wide n P (Exit.inBlock id Q) a w :=
  wpIn_rangeC3 hg eg hseq hA hsz hK hps I (fun c s D W => c = .exit id ∧ Ix s D W) C₀ hC hI (fun h k => ⟨h.1, hIx h.2 k⟩) h0 hround
    (fun D xs C Di W0 W hD hS hi hst hdi hDk => hend D Di W0 W hD (.inl ⟨xs, C, hS, hi⟩) hst hdi hDk)
    (fun D c pre Di W0 W hD hSp hX hst hdi hDk => by
      obtain ⟨rfl, hX⟩ := hX
      refine wpIn_exit ?_
      show (if id = id then _ else _)
      rw [if_pos rfl]
      exact hend D Di W0 W hD (.inr ⟨pre, hSp, hX⟩) hst hdi hDk)
end Go.Proofs.Ytpapoalgocmlaaa
namespace Go.Proofs.Ytpapoalgocmlaaa
open Go.RowKit
set_option linter.unusedVariables false
set_option linter.unusedSimpArgs false
def Get9Post (F : Nat → Prop) (o : Option Val) (w : World) (e : Ending) (w' : World) : Prop :=
  ∃ sl so, e = .returned (.tuple #[aggV (o.getD zeroV) sl so, .bool o.isSome]) ∧ Ext w w' ∧ RV w' F (o.getD zeroV) sl so
theorem blk6 {W : World} {b : Nat} {t : TypeId} {a0 a1 a2 a3 a4 a5 c0 c1 c2 c3 c4 c5 : Value} (h : Blk W b t #[a0, a1, a2, a3, a4, a5]) : Blk ((((((W.setCell ⟨b, 0, none⟩ c0).setCell ⟨b, 1, none⟩ c1).setCell ⟨b, 2, none⟩ c2).setCell ⟨b, 3, none⟩ c3).setCell ⟨b, 4, none⟩ c4).setCell ⟨b, 5, none⟩ c5) b t #[c0, c1, c2, c3, c4, c5] := by
  have h0 : Blk _ b t #[c0, a1, a2, a3, a4, a5] := h.set_ 0 c0
  have h1 : Blk _ b t #[c0, c1, a2, a3, a4, a5] := h0.set_ 1 c1
  have h2 : Blk _ b t #[c0, c1, c2, a3, a4, a5] := h1.set_ 2 c2
  have h3 : Blk _ b t #[c0, c1, c2, c3, a4, a5] := h2.set_ 3 c3
  have h4 : Blk _ b t #[c0, c1, c2, c3, c4, a5] := h3.set_ 4 c4
  have h5 : Blk _ b t #[c0, c1, c2, c3, c4, c5] := h4.set_ 5 c5
  exact h5
theorem ext6 {w W : World} {b : Nat} {c0 c1 c2 c3 c4 c5 : Value} (h : Ext w W) (hb : w.heap.size ≤ b) : Ext w ((((((W.setCell ⟨b, 0, none⟩ c0).setCell ⟨b, 1, none⟩ c1).setCell ⟨b, 2, none⟩ c2).setCell ⟨b, 3, none⟩ c3).setCell ⟨b, 4, none⟩ c4).setCell ⟨b, 5, none⟩ c5) := by
  have s : ∀ {X : World} (i : Nat) (v : Value), Ext w X → Ext w (X.setCell ⟨b, i, none⟩ v) := fun i v hx => hx.setCell (p := ⟨b, i, none⟩) hb v
  exact s 5 _ (s 4 _ (s 3 _ (s 2 _ (s 1 _ (s 0 _ (h))))))
theorem res_get9 {tm : Array Value} {W : World} {b : Nat} {bb : Bool} {c0 c1 c2 c3 c4 c5 : Value} (h4 : tm.getD 4 undef = .pointer (some ⟨b, 0, none⟩)) (h5 : tm.getD 5 undef = .bool bb) (hb : Blk W b 49 #[c0, c1, c2, c3, c4, c5]) :
    (results Try.f128 tm).run Try.prog W = .ok (.tuple #[.agg #[c0, c1, c2, c3, c4, c5], .bool bb]) W := by
  obtain ⟨r0, r1, r2, r3, r4, r5⟩ := hb.c6
  simp only [Array.getD_eq_getD_getElem?] at h4 h5
  simp [results, Try.results128, go_sem, h4, h5, r0, r1, r2, r3, r4, r5]
set_option maxRecDepth 100000 in
set_option maxHeartbeats 4000000 in
theorem get9_any {w : World} {F : Nat → Prop} {s : Sl} {xs : List LE} (hs : ES w F s xs) (hF : ∀ b, F b → b < w.heap.size) (k : ByteArray) :
    Calls Try.prog 128 #[.slice s.a xs.length s.c, .string k] w (Get9Post F (getE (xs.map LE.ent) k) w) := by
  have hf := hs.few
  have hnl : xs.length ≤ 140737488355328 := by omega
  have HS := Lib.hid hs
  have HF := Lib.hid hF
  clear hs hF hf
  go_enter Try.func128, Try.ntmps128
  go_wp2_with fail
  have hx0 : Ext w (w.alloc (.cells #[.int .i64 0, .bool false, .int .i64 0, .string ByteArray.empty, .slice none 0 0, .slice none 0 0] 49)) := (Ext.refl w).alloc _ _
  have HX0 := Lib.hid hx0
  have HB0 := Lib.hid (Blk.new w 49 #[.int .i64 0, .bool false, .int .i64 0, .string ByteArray.empty, .slice none 0 0, .slice none 0 0])
  clear hx0
  go_loopw [6] (fun q wr => ∃ j : Nat, q = .int .i64 j ∧ j ≤ xs.length ∧ getE (xs.map LE.ent) k = getE ((xs.map LE.ent).drop j) k ∧ wr = w.alloc (.cells #[.int .i64 0, .bool false, .int .i64 0, .string ByteArray.empty, .slice none 0 0, .slice none 0 0] 49)) (fun q _ => xs.length - (intOf q).toNat)
  case atStart => exact ⟨0, rfl, Nat.zero_le _, rfl, rfl⟩
  case round =>
    obtain ⟨j, rfl, hjl, hp, hw⟩ := hrel
    have hb := HB0.out
    have hx := HX0.out
    rw [← hw] at hb hx
    have HX := Lib.hid hx
    have HB := Lib.hid hb
    have HP := Lib.hid hp
    have HW := Lib.hid hw
    obtain ⟨z0, z1, z2, z3, z4, z5⟩ := hb.c6
    have lz := hb.lt
    have fz := fun i => hb.frozen i
    clear hp hw hb hx
    by_cases h1 : j < xs.length
    · have g1 : (j : Int) < (xs.length : Int) := by omega
      obtain ⟨x, hxx⟩ : ∃ x, xs[j]? = some x := ⟨_, List.getElem?_eq_getElem h1⟩
      have hd : (xs.map LE.ent).drop j = x.ent :: (xs.map LE.ent).drop (j + 1) := by
        have h2 : (xs.map LE.ent)[j]? = some x.ent := by rw [List.getElem?_map, hxx]; rfl
        obtain ⟨h3, h4⟩ := List.getElem?_eq_some_iff.1 h2
        rw [List.drop_eq_getElem_cons h3, h4]
      have hag : Agree F w wr := HX.out.agree HF.out
      obtain ⟨g, o, hg, lg, hc, hcm, kx, ⟨v0, v1, v2, v3, v4, v5⟩, rx, hkm⟩ := (HS.out.agree hag).at hxx
      obtain ⟨sa, sc⟩ := s
      dsimp only at hg hc hcm
      subst hg
      have lgw := HF.out g lg
      have HD := Lib.hid hd
      have HR := Lib.hid rx
      have hne : ¬ g = w.heap.size := by omega
      have hne' : ¬ w.heap.size = g := by omega
      clear hxx hd hag rx
      by_cases hk : x.k = k
      · have hkb : (x.k.toList == k.toList) = true := by rw [hk]; simp
        have HK := Lib.hid hk
        clear hk
        go_wp2_with fail
        refine bodyPost_ret (res_get9 rfl rfl (blk6 HB.out)) rfl ?_
        have hx9 := ext6 (c0 := .int .i64 x.v.kind) (c1 := .bool x.v.b) (c2 := .int .i64 x.v.i) (c3 := .string x.v.t) (c4 := .slice x.sl.a x.v.l.length x.sl.c) (c5 := .slice x.so.a x.v.ok.length x.so.c) HX.out (Nat.le_refl _)
        have he : getE (xs.map LE.ent) k = some x.v := by rw [HP.out, HD.out, getE, if_pos (show x.ent.1 = k from HK.out)]; rfl
        rw [he]
        refine ⟨x.sl, x.so, rfl, hx9, HR.out.agree ?_⟩
        have hst : St (fun b => b = w.heap.size) wr _ := (((((((St.refl (fun b => b = w.heap.size) wr).set (p := ⟨w.heap.size, 0, none⟩) (.inr rfl) (.int .i64 x.v.kind)).set (p := ⟨w.heap.size, 1, none⟩) (.inr rfl) (.bool x.v.b)).set (p := ⟨w.heap.size, 2, none⟩) (.inr rfl) (.int .i64 x.v.i)).set (p := ⟨w.heap.size, 3, none⟩) (.inr rfl) (.string x.v.t)).set (p := ⟨w.heap.size, 4, none⟩) (.inr rfl) (.slice x.sl.a x.v.l.length x.sl.c)).set (p := ⟨w.heap.size, 5, none⟩) (.inr rfl) (.slice x.so.a x.v.ok.length x.so.c))
        exact hst.agree.mono fun i hi => ⟨Nat.lt_of_lt_of_le (HF.out i hi) HX.out.size, fun e => by have := HF.out i hi; omega⟩
      · have hkb : (x.k.toList == k.toList) = false := by rw [beq_toList]; exact decide_eq_false hk
        have HK := Lib.hid hk
        clear hk
        go_wp2_with fail
        go_roundw
        case rel => exact ⟨j + 1, by go_num, h1, by rw [HP.out, HD.out, getE, if_neg (show ¬ x.ent.1 = k from HK.out)], HW.out⟩
        case measure => simp [intOf]; omega
    · obtain rfl : j = xs.length := by omega
      go_wp2_with fail
      refine bodyPost_ret (res_get9 rfl rfl (blk6 HB.out)) rfl ?_
      have hx9 := ext6 (c0 := .int .i64 0) (c1 := .bool false) (c2 := .int .i64 0) (c3 := .string ⟨#[]⟩) (c4 := .slice none 0 0) (c5 := .slice none 0 0) HX.out (Nat.le_refl _)
      have he : getE (xs.map LE.ent) k = none := by rw [HP.out, List.drop_eq_nil_of_le (by simp)]; rfl
      rw [he]
      exact ⟨Sl.none, Sl.none, rfl, hx9, RV.flat _ _ _ _ _ _ (by decide) (by decide) (by decide)⟩
end Go.Proofs.Ytpapoalgocmlaaa
namespace Go.Proofs.Ytpapoalgocmlaaa
open Go.RowKit Go.Shelf
set_option linter.unusedVariables false
set_option linter.unusedSimpArgs false
theorem putAll_take9 {l A : List Ent} {j : Nat} {e : Ent} (h : l[j]? = some e) : putAll A (zeroL9 (l.take (j + 1))) = insE (putAll A (zeroL9 (l.take j))) e.1 zeroV := by
  have h2 : l.take (j + 1) = l.take j ++ [e] := by rw [List.take_add_one, h]; rfl
  rw [h2, zeroL9, List.map_append, List.map_cons, List.map_nil, putAll_snoc]
  rfl
set_option maxRecDepth 100000 in
set_option maxHeartbeats 8000000 in
theorem refC9_any {w : World} {s s' : Sl} {xs ys : List LE} (hs : ES w (Lt w.heap.size) s xs) (hs' : ES w (Lt w.heap.size) s' ys) (hl : xs.length ≤ 100000) (hl' : ys.length ≤ 100000) (sx : Sorted (xs.map LE.ent)) (sy : Sorted (ys.map LE.ent)) :
    Calls Try.prog 85 #[.slice s.a xs.length s.c, .slice s'.a ys.length s'.c] w fun e w' => ∃ (r : Sl) (zs : List CE), e = .returned (.slice r.a zs.length r.c) ∧ zs.map CE.c = refC (xs.map LE.ent) (ys.map LE.ent) ∧ Ext w w' ∧ CS w' (Lt w'.heap.size) r zs := by
  obtain ⟨i0, hi, hz0, hz1, hz2⟩ := info_parts Try.infoChange
  have HS := Lib.hid hs
  have HS' := Lib.hid hs'
  clear hs hs' sx sy
  go_enter Try.func85, Try.ntmps85
  go_wp2_with fail
  have hx0 : Ext w (w.alloc (.cells #[.slice none 0 0] 82)) := (Ext.refl w).alloc _ _
  have hM0 : MapAt (fun b => b = w.heap.size) (w.alloc (.cells #[.slice none 0 0] 82)) w.heap.size (putAll [] (zeroL9 ((xs.map LE.ent).take 0))) := ⟨rfl, Sl.none, [], Blk.new w _ _, ES.nil _ _, rfl⟩
  have hsz0 : w.heap.size < (w.alloc (.cells #[.slice none 0 0] 82)).heap.size := by simp
  have HX0 := Lib.hid hx0
  have HM0 := Lib.hid hM0
  clear hx0 hM0
  generalize w.alloc (.cells #[.slice none 0 0] 82) = W0 at *
  go_loopw [6] (fun i wr => ∃ j : Nat, j ≤ xs.length ∧ i = .int .i64 j ∧ MapAt (fun b => b = w.heap.size) wr w.heap.size (putAll [] (zeroL9 ((xs.map LE.ent).take j))) ∧ Ext w wr ∧ w.heap.size < wr.heap.size) (fun i _ => xs.length - (intOf i).toNat)
  case atStart => exact ⟨0, Nat.zero_le _, rfl, HM0.out, HX0.out, hsz0⟩
  case round =>
    obtain ⟨j, hj, rfl, hM, hX, hsz⟩ := hrel
    have HM := Lib.hid hM
    have HX := Lib.hid hX
    by_cases hlt : j < xs.length
    · have hjl : (j : Int) < (xs.length : Int) := by omega
      obtain ⟨x, hxj⟩ : ∃ x, xs[j]? = some x := ⟨_, List.getElem?_eq_getElem hlt⟩
      obtain ⟨b, o, ha, hbl, hlc, hcm, k0, -, -, hks⟩ := (HS.out.agree (hX.agree fun _ h => h)).at hxj
      obtain ⟨sa, sc⟩ := s
      dsimp only at ha hlc hcm
      subst ha
      have hbl : b < w.heap.size := hbl
      have hXe : (xs.map LE.ent)[j]? = some x.ent := by rw [List.getElem?_map, hxj]; rfl
      have HXE := Lib.hid hXe
      have hlen : (putAll [] (zeroL9 ((xs.map LE.ent).take j))).length ≤ 1000000 := by
        have := putAll_len (zeroL9 ((xs.map LE.ent).take j)) []
        simp only [zeroL9, List.length_map, List.length_take, List.length_nil] at this ⊢
        omega
      have hput := put7_any hM (fun b hb => by omega) (putAll_sorted' List.Pairwise.nil) hlen hks (v := zeroV) (sl := Sl.none) (so := Sl.none) (RV.flat _ _ _ _ _ _ (by decide) (by decide) (by decide))
      have HPUT := Lib.hid hput
      clear hM hX hxj hput hXe
      go_wp2_with fail
      refine HPUT.out.mono ?_
      rintro e w2 ⟨⟨r, rfl⟩, hm2, hst2⟩
      have HM2 := Lib.hid hm2
      have HST := Lib.hid hst2
      clear hm2 hst2
      go_wp2_with fail
      go_roundw
      case rel => exact ⟨j + 1, hlt, by go_num, by rw [putAll_take9 HXE.out]; exact HM2.out, HX.out.step HST.out (fun b hb => by omega), Nat.lt_of_lt_of_le hsz HST.out.size⟩
      case measure => simp [intOf]; omega
    · obtain rfl : j = xs.length := by omega
      have g1 : ¬ (xs.length : Int) < (xs.length : Int) := by omega
      rw [List.take_of_length_le (by rw [List.length_map]; exact Nat.le_refl _)] at HM
      obtain ⟨es1, hes1⟩ : ∃ es, putAll [] (zeroL9 (xs.map LE.ent)) = es := ⟨_, rfl⟩
      have hs1 : Sorted es1 := by rw [← hes1]; exact putAll_sorted' List.Pairwise.nil
      have hl1 : es1.length ≤ 100000 := by
        have := putAll_len (zeroL9 (xs.map LE.ent)) []
        rw [hes1] at this
        simp only [zeroL9, List.length_map, List.length_nil] at this
        omega
      rw [hes1] at HM
      have HES1 := Lib.hid hes1
      have HSO1 := Lib.hid hs1
      clear hM hX hes1 hs1
      obtain ⟨w4, hw4⟩ : ∃ w4, w4 = wr := ⟨_, rfl⟩
      subst hw4
      go_wp2_with fail
      go_loopw [7] (fun i wr => ∃ j : Nat, j ≤ ys.length ∧ i = .int .i64 j ∧ MapAt (fun b => b = w.heap.size) wr w.heap.size (putAll es1 (zeroL9 ((ys.map LE.ent).take j))) ∧ Ext w wr ∧ w.heap.size < wr.heap.size) (fun i _ => ys.length - (intOf i).toNat)
      case atStart => exact ⟨0, Nat.zero_le _, rfl, HM.out, HX.out, hsz⟩
      case round =>
        obtain ⟨j2, hj2, rfl, hM, hX, hsz⟩ := hrel
        have HM := Lib.hid hM
        have HX := Lib.hid hX
        by_cases hlt2 : j2 < ys.length
        · have hjl : (j2 : Int) < (ys.length : Int) := by omega
          obtain ⟨x, hxj⟩ : ∃ x, ys[j2]? = some x := ⟨_, List.getElem?_eq_getElem hlt2⟩
          obtain ⟨b, o, ha, hbl, hlc, hcm, k0, -, -, hks⟩ := (HS'.out.agree (hX.agree fun _ h => h)).at hxj
          obtain ⟨sa, sc⟩ := s'
          dsimp only at ha hlc hcm
          subst ha
          have hbl : b < w.heap.size := hbl
          have hXe : (ys.map LE.ent)[j2]? = some x.ent := by rw [List.getElem?_map, hxj]; rfl
          have HXE := Lib.hid hXe
          have hlen : (putAll es1 (zeroL9 ((ys.map LE.ent).take j2))).length ≤ 1000000 := by
            have := putAll_len (zeroL9 ((ys.map LE.ent).take j2)) es1
            simp only [zeroL9, List.length_map, List.length_take] at this ⊢
            omega
          have hput := put7_any hM (fun b hb => by omega) (putAll_sorted' HSO1.out) hlen hks (v := zeroV) (sl := Sl.none) (so := Sl.none) (RV.flat _ _ _ _ _ _ (by decide) (by decide) (by decide))
          have HPUT := Lib.hid hput
          clear hM hX hxj hput hXe
          go_wp2_with fail
          refine HPUT.out.mono ?_
          rintro e w2 ⟨⟨r, rfl⟩, hm2, hst2⟩
          have HM2 := Lib.hid hm2
          have HST := Lib.hid hst2
          clear hm2 hst2
          go_wp2_with fail
          go_roundw
          case rel => exact ⟨j2 + 1, hlt2, by go_num, by rw [putAll_take9 HXE.out]; exact HM2.out, HX.out.step HST.out (fun b hb => by omega), Nat.lt_of_lt_of_le hsz HST.out.size⟩
          case measure => simp [intOf]; omega
        · obtain rfl : j2 = ys.length := by omega
          have g2 : ¬ (ys.length : Int) < (ys.length : Int) := by omega
          rw [List.take_of_length_le (by rw [List.length_map]; exact Nat.le_refl _)] at HM
          obtain ⟨-, sm, ms, hbm, hsm, hme⟩ := HM.out
          have hml : ms.length ≤ 200000 := by
            have h1 := congrArg List.length hme
            have h2 := putAll_len (zeroL9 (ys.map LE.ent)) es1
            simp only [zeroL9, List.length_map] at h1 h2
            omega
          have HBM := Lib.hid hbm
          have HSM := Lib.hid hsm
          have HME := Lib.hid hme
          clear hM hX hbm hsm hme
          obtain ⟨w5, hw5⟩ : ∃ w5, w5 = wr := ⟨_, rfl⟩
          subst hw5
          go_wp2_with fail
          have hlx : w.heap.size < w5.heap.size := hsz
          go_loopw [8, 9] (fun v8 i wr => ∃ (j : Nat) (r : Sl) (zs : List CE), v8 = .slice r.a zs.length r.c ∧ j ≤ ms.length ∧ i = .int .i64 j ∧ wr.ownsRow w5.heap.size 134 15 (.slice r.a zs.length r.c) zs.length (flatC zs) ∧ (∀ x ∈ zs, CR wr (Lt w.heap.size) x) ∧ zs.map CE.c = ((ms.map LE.k).take j).filterMap (diffK (xs.map LE.ent) (ys.map LE.ent)) ∧ zs.length ≤ j ∧ Ext w5 wr) (fun _ i _ => ms.length - (intOf i).toNat)
          case atStart => exact ⟨0, Sl.none, [], rfl, Nat.zero_le _, rfl, World.ownsRow_nil _ _ _ _, fun x hx => (by cases hx), rfl, Nat.le_refl _, Ext.refl _⟩
          case round =>
            obtain ⟨j3, r, zs, rfl, hj3, rfl, hown, hvz, hzs, hzl, hX5⟩ := hrel
            have HOWN := Lib.hid hown
            have HVZ := Lib.hid hvz
            have HZS := Lib.hid hzs
            have HX5 := Lib.hid hX5
            have hbm := HBM.out.ext hX5
            have cm : wr.cell? ⟨w.heap.size, 0, none⟩ = some (.slice sm.a ms.length sm.c) := hbm.cell 0
            have lm := hbm.lt
            by_cases hlt3 : j3 < ms.length
            · have hjl : (j3 : Int) < (ms.length : Int) := by omega
              obtain ⟨x, hxj⟩ : ∃ x, ms[j3]? = some x := ⟨_, List.getElem?_eq_getElem hlt3⟩
              obtain ⟨b, o, ha, hbl, hlc, hcm, k0, -, -, hks⟩ := (HSM.out.agree (hX5.agree fun b hb => hb.1)).at hxj
              obtain ⟨sa, sc⟩ := sm
              dsimp only at ha hlc hcm cm
              subst ha
              have lb : b < wr.heap.size := Nat.lt_of_lt_of_le hbl.1 hX5.size
              have hXw : Ext w wr := HX.out.trans hX5
              have hg1 := get9_any (HS.out.agree (hXw.agree fun _ h => h)) (fun b hb => Nat.lt_of_lt_of_le hb hXw.size) x.k
              have hg2 := fun W (hW : Ext wr W) => get9_any (HS'.out.agree ((hXw.trans hW).agree fun _ h => h)) (fun b hb => Nat.lt_of_lt_of_le hb (hXw.trans hW).size) x.k
              have hkt : (ms.map LE.k).take (j3 + 1) = (ms.map LE.k).take j3 ++ [x.k] := by rw [List.take_add_one, List.getElem?_map, hxj]; rfl
              have HKT := Lib.hid hkt
              obtain ⟨v1, hv1⟩ : ∃ v, (getE (xs.map LE.ent) x.k).getD zeroV = v := ⟨_, rfl⟩
              obtain ⟨b1, hb1⟩ : ∃ b, (getE (xs.map LE.ent) x.k).isSome = b := ⟨_, rfl⟩
              obtain ⟨v2, hv2⟩ : ∃ v, (getE (ys.map LE.ent) x.k).getD zeroV = v := ⟨_, rfl⟩
              obtain ⟨b2, hb2⟩ : ∃ b, (getE (ys.map LE.ent) x.k).isSome = b := ⟨_, rfl⟩
              have HG1 := Lib.hid (show Calls Try.prog 128 #[.slice s.a xs.length s.c, .string x.k] wr (fun e w' => ∃ sl so, e = .returned (.tuple #[aggV v1 sl so, .bool b1]) ∧ Ext wr w' ∧ RV w' (Lt w.heap.size) v1 sl so) from hg1.mono fun e w' ⟨sl, so, h1, h2, h3⟩ => ⟨sl, so, by rw [h1, hv1, hb1], h2, by rw [← hv1]; exact h3⟩)
              have HG2 := Lib.hid (show ∀ W, Ext wr W → Calls Try.prog 128 #[.slice s'.a ys.length s'.c, .string x.k] W (fun e w' => ∃ sl so, e = .returned (.tuple #[aggV v2 sl so, .bool b2]) ∧ Ext W w' ∧ RV w' (Lt w.heap.size) v2 sl so) from fun W hW => (hg2 W hW).mono fun e w' ⟨sl, so, h1, h2, h3⟩ => ⟨sl, so, by rw [h1, hv2, hb2], h2, by rw [← hv2]; exact h3⟩)
              have HDK := Lib.hid (show diffK (xs.map LE.ent) (ys.map LE.ent) x.k = if b1 ≠ b2 ∨ cmpV v1 v2 ≠ 0 then some ⟨x.k, b1, v1, b2, v2⟩ else none by unfold diffK; rw [hv1, hv2, hb1, hb2])
              have HXW := Lib.hid hXw
              have HKM := Lib.hid hks
              clear hown hvz hzs hX5 hbm hxj hg1 hg2 hkt hXw hv1 hb1 hv2 hb2 hks
              go_wp2_with fail
              refine HG1.out.mono ?_
              rintro e w6 ⟨sl, so, rfl, hx6, hr6⟩
              have hs6x := hx6.size
              have hx6' := hx6.alloc #[.int .i64 v1.kind, .bool v1.b, .int .i64 v1.i, .string v1.t, .slice sl.a v1.l.length sl.c, .slice so.a v1.ok.length so.c] 49
              have HX6 := Lib.hid hx6'
              have HR6 := Lib.hid hr6
              have HB6 := Lib.hid (Blk.new w6 49 #[.int .i64 v1.kind, .bool v1.b, .int .i64 v1.i, .string v1.t, .slice sl.a v1.l.length sl.c, .slice so.a v1.ok.length so.c])
              have HA6 := Lib.hid ((Ext.refl w6).alloc #[.int .i64 v1.kind, .bool v1.b, .int .i64 v1.i, .string v1.t, .slice sl.a v1.l.length sl.c, .slice so.a v1.ok.length so.c] 49)
              clear hx6 hx6' hr6
              go_wp2_with fail
              refine (HG2.out _ HX6.out).mono ?_
              rintro e w7 ⟨sl', so', rfl, hx7, hr7⟩
              have hb7 := HB6.out.ext hx7
              obtain ⟨d0, d1, d2, d3, d4, d5⟩ := hb7.c6
              have ld := hb7.lt
              have HX7 := Lib.hid (HX6.out.trans hx7)
              have hsw := HXW.out.size
              have hx8 := hx7.alloc #[.int .i64 v2.kind, .bool v2.b, .int .i64 v2.i, .string v2.t, .slice sl'.a v2.l.length sl'.c, .slice so'.a v2.ok.length so'.c] 49
              have hs7x := hx7.size
              have hsa6 := HA6.out.size
              have hs8 := hx8.size
              have hr68 := HR6.out.agree ((HA6.out.trans hx8).agree fun b (hb : b < w.heap.size) => by omega)
              have hr78 := hr7.agree (((Ext.refl w7).alloc #[.int .i64 v2.kind, .bool v2.b, .int .i64 v2.i, .string v2.t, .slice sl'.a v2.l.length sl'.c, .slice so'.a v2.ok.length so'.c] 49).agree fun b (hb : b < w.heap.size) => by omega)
              have hcmp := cmp02_any _ v1 v2 (Nat.le_refl _) _ _ _ _ _ (hr68.mono fun i (hi : i < w.heap.size) => (show i < _ by omega)) (hr78.mono fun i (hi : i < w.heap.size) => (show i < _ by omega))
              have HCMP := Lib.hid hcmp
              have HX8 := Lib.hid (HX6.out.trans hx8)
              have HX7b := Lib.hid hx8
              have HR68 := Lib.hid hr68
              have HR78 := Lib.hid hr78
              clear hx7 hx8 hr7 hb7 hr68 hr78 hcmp
              by_cases hbb : b1 = b2
              · subst hbb
                have hbq : (b1 != b1) = false := by simp
                go_wp2_with fail
                refine HCMP.out.mono ?_
                rintro e w9 ⟨rfl, hx9⟩
                have HX9 := Lib.hid hx9
                obtain ⟨f0, f1, f2, f3, f4, f5⟩ := ((HB6.out.ext HX7b.out).ext hx9).c6
                have hb9 := (Blk.new w7 49 #[.int .i64 v2.kind, .bool v2.b, .int .i64 v2.i, .string v2.t, .slice sl'.a v2.l.length sl'.c, .slice so'.a v2.ok.length so'.c]).ext hx9
                obtain ⟨q0, q1, q2, q3, q4, q5⟩ := hb9.c6
                have lf := ((HB6.out.ext HX7b.out).ext hx9).lt
                have lq := hb9.lt
                have hs9 := hx9.size
                clear hx9 hb9 d0 d1 d2 d3 d4 d5 ld
                by_cases hc : cmpV v1 v2 = 0
                · have hcb : (cmpV v1 v2 != 0) = false := by simp [hc]
                  have HCC := Lib.hid hc
                  clear hc
                  go_wp2_with fail
                  go_roundw
                  case rel =>
                    have hE := HX8.out.trans HX9.out
                    refine ⟨j3 + 1, r, zs, rfl, hlt3, by go_num, own_agree HOWN.out (hE.agree fun b (hb : b < wr.heap.size) => hb) (fun b hb => (own_row HOWN.out hb).2), fun y hy => (HVZ.out y hy).agree (hE.agree fun b (hb : b < w.heap.size) => by omega), ?_, by omega, HX5.out.trans hE⟩
                    rw [HZS.out, HKT.out, List.filterMap_append, List.filterMap_cons, HDK.out, if_neg (by simp [HCC.out])]; simp
                  case measure => simp [intOf]; omega
                · have hcb : (cmpV v1 v2 != 0) = true := bne_iff_ne.2 hc
                  have HCC := Lib.hid hc
                  clear hc
                  have hxA : Ext wr w9 := HX8.out.trans HX9.out
                  have HXA := Lib.hid hxA
                  have hnA : Ext w9 (w9.alloc (.cells (⟨⟨x.k, b1, v1, b1, v2⟩, sl, so, sl', so'⟩ : CE).cells 134)) := (Ext.refl _).alloc _ _
                  have HOX := Lib.hid (own_agree HOWN.out ((hxA.trans hnA).agree fun b (hb : b < wr.heap.size) => hb) (fun b hb => (own_row HOWN.out hb).2))
                  have HBN := Lib.hid (Blk.new w9 134 (⟨⟨x.k, b1, v1, b1, v2⟩, sl, so, sl', so'⟩ : CE).cells)
                  have HNA := Lib.hid hnA
                  have h63 : zs.length + 1 ≤ maxLen := by unfold maxLen; omega
                  have hby : (zs.length + 1) * 208 ≤ 140737488355328 := by omega
                  have hs5w := HX5.out.size
                  have hsA := hxA.size
                  have hbase : w5.heap.size ≤ (w9.alloc (.cells (⟨⟨x.k, b1, v1, b1, v2⟩, sl, so, sl', so'⟩ : CE).cells 134)).heap.size := by rw [World.size_alloc]; omega
                  have hone := ce_one (⟨⟨x.k, b1, v1, b1, v2⟩, sl, so, sl', so'⟩ : CE)
                  clear hxA hnA
                  go_wp2_with (at_builtin; refine wpList_append_x _ rfl (.tmp 83) (.tmp 90) 131 rfl w5.heap.size 134 i0 _ 15 208 Try.underlying131 hi hz0 hz1 hz2 rfl (by decide) r zs.length (flatC zs) rfl HOX.out (fun b => b = w9.heap.size) ⟨some ⟨w9.heap.size, 0, none⟩, 1⟩ 1 (⟨⟨x.k, b1, v1, b1, v2⟩, sl, so, sl', so'⟩ : CE).cells.toList rfl (Rd.block HBN.out (by decide) rfl) hone h63 hby hbase ?_; intro r2 wA hownA hwrA hsA2; have HOA := Lib.hid hownA; have HWA := Lib.hid hwrA; clear hownA hwrA hsA2)
                  go_roundw
                  case rel =>
                    have hrow : ∀ b, r.row = some b → w5.heap.size ≤ b := fun b hb => (own_row HOWN.out hb).1
                    have hE : Ext w5 wA := ((HX5.out.trans HXA.out).trans HNA.out).wr HWA.out hrow
                    have hlo : ∀ b, Lt w.heap.size b → b < w5.heap.size := fun b (hb : b < w.heap.size) => by omega
                    have hEr : ∀ y : CE, CR w9 (Lt w.heap.size) y → CR wA (Lt w.heap.size) y := fun y hy => (hy.agree (HNA.out.agree fun b (hb : b < w.heap.size) => by omega)).agree (HWA.out.agree (F := Lt w.heap.size) (fun i (hi : i < w.heap.size) => by rw [World.size_alloc]; omega) (fun i hi (h : i < w.heap.size) => by have := hrow i hi; omega))
                    refine ⟨j3 + 1, r2, zs ++ [(⟨⟨x.k, b1, v1, b1, v2⟩, sl, so, sl', so'⟩ : CE)], by rw [List.length_append, List.length_singleton], hlt3, by go_num, ?_, fun y hy => ?_, ?_, by rw [List.length_append, List.length_singleton]; omega, hE⟩
                    · rw [List.length_append, List.length_singleton, flatC_snoc]; exact HOA.out
                    · rcases List.mem_append.1 hy with hy | hy
                      · exact hEr y ((HVZ.out y hy).agree (HXA.out.agree fun b (hb : b < w.heap.size) => by omega))
                      · obtain rfl := List.mem_singleton.1 hy
                        exact hEr _ ⟨HR68.out.agree (HX9.out.agree fun b (hb : b < w.heap.size) => by omega), HR78.out.agree (HX9.out.agree fun b (hb : b < w.heap.size) => by omega), HKM.out⟩
                    · rw [List.map_append, HZS.out, HKT.out, List.filterMap_append, List.filterMap_cons, HDK.out, if_pos (.inr HCC.out)]; rfl
                  case measure => simp [intOf]; omega
              · have hbq : (b1 != b2) = true := bne_iff_ne.2 hbb
                have HBB := Lib.hid hbb
                clear hbb
                have hxA : Ext wr (w7.alloc (.cells #[.int .i64 v2.kind, .bool v2.b, .int .i64 v2.i, .string v2.t, .slice sl'.a v2.l.length sl'.c, .slice so'.a v2.ok.length so'.c] 49)) := HX8.out
                have HXA := Lib.hid hxA
                have hnA : Ext (w7.alloc (.cells #[.int .i64 v2.kind, .bool v2.b, .int .i64 v2.i, .string v2.t, .slice sl'.a v2.l.length sl'.c, .slice so'.a v2.ok.length so'.c] 49)) ((w7.alloc (.cells #[.int .i64 v2.kind, .bool v2.b, .int .i64 v2.i, .string v2.t, .slice sl'.a v2.l.length sl'.c, .slice so'.a v2.ok.length so'.c] 49)).alloc (.cells (⟨⟨x.k, b1, v1, b2, v2⟩, sl, so, sl', so'⟩ : CE).cells 134)) := (Ext.refl _).alloc _ _
                have HOX := Lib.hid (own_agree HOWN.out ((hxA.trans hnA).agree fun b (hb : b < wr.heap.size) => hb) (fun b hb => (own_row HOWN.out hb).2))
                have HBN := Lib.hid (show Blk ((w7.alloc (.cells #[.int .i64 v2.kind, .bool v2.b, .int .i64 v2.i, .string v2.t, .slice sl'.a v2.l.length sl'.c, .slice so'.a v2.ok.length so'.c] 49)).alloc (.cells (⟨⟨x.k, b1, v1, b2, v2⟩, sl, so, sl', so'⟩ : CE).cells 134)) (w7.heap.size + 1) 134 (⟨⟨x.k, b1, v1, b2, v2⟩, sl, so, sl', so'⟩ : CE).cells by have := Blk.new (w7.alloc (.cells #[.int .i64 v2.kind, .bool v2.b, .int .i64 v2.i, .string v2.t, .slice sl'.a v2.l.length sl'.c, .slice so'.a v2.ok.length so'.c] 49)) 134 (⟨⟨x.k, b1, v1, b2, v2⟩, sl, so, sl', so'⟩ : CE).cells; rwa [World.size_alloc] at this)
                have HNA := Lib.hid hnA
                have h63 : zs.length + 1 ≤ maxLen := by unfold maxLen; omega
                have hby : (zs.length + 1) * 208 ≤ 140737488355328 := by omega
                have hs5w := HX5.out.size
                have hsA := hxA.size
                have hbase : w5.heap.size ≤ ((w7.alloc (.cells #[.int .i64 v2.kind, .bool v2.b, .int .i64 v2.i, .string v2.t, .slice sl'.a v2.l.length sl'.c, .slice so'.a v2.ok.length so'.c] 49)).alloc (.cells (⟨⟨x.k, b1, v1, b2, v2⟩, sl, so, sl', so'⟩ : CE).cells 134)).heap.size := by rw [World.size_alloc]; omega
                have hone := ce_one (⟨⟨x.k, b1, v1, b2, v2⟩, sl, so, sl', so'⟩ : CE)
                clear hxA hnA
                go_wp2_with (at_builtin; refine wpList_append_x _ rfl (.tmp 83) (.tmp 90) 131 rfl w5.heap.size 134 i0 _ 15 208 Try.underlying131 hi hz0 hz1 hz2 rfl (by decide) r zs.length (flatC zs) rfl HOX.out (fun b => b = w7.heap.size + 1) ⟨some ⟨w7.heap.size + 1, 0, none⟩, 1⟩ 1 (⟨⟨x.k, b1, v1, b2, v2⟩, sl, so, sl', so'⟩ : CE).cells.toList rfl (Rd.block HBN.out (by decide) rfl) hone h63 hby hbase ?_; intro r2 wA hownA hwrA hsA2; have HOA := Lib.hid hownA; have HWA := Lib.hid hwrA; clear hownA hwrA hsA2)
                go_roundw
                case rel =>
                  have hrow : ∀ b, r.row = some b → w5.heap.size ≤ b := fun b hb => (own_row HOWN.out hb).1
                  have hE : Ext w5 wA := ((HX5.out.trans HXA.out).trans HNA.out).wr HWA.out hrow
                  have hlo : ∀ b, Lt w.heap.size b → b < w5.heap.size := fun b (hb : b < w.heap.size) => by omega
                  have hEr : ∀ y : CE, CR (w7.alloc (.cells #[.int .i64 v2.kind, .bool v2.b, .int .i64 v2.i, .string v2.t, .slice sl'.a v2.l.length sl'.c, .slice so'.a v2.ok.length so'.c] 49)) (Lt w.heap.size) y → CR wA (Lt w.heap.size) y := fun y hy => (hy.agree (HNA.out.agree fun b (hb : b < w.heap.size) => by omega)).agree (HWA.out.agree (F := Lt w.heap.size) (fun i (hi : i < w.heap.size) => by rw [World.size_alloc]; omega) (fun i hi (h : i < w.heap.size) => by have := hrow i hi; omega))
                  refine ⟨j3 + 1, r2, zs ++ [(⟨⟨x.k, b1, v1, b2, v2⟩, sl, so, sl', so'⟩ : CE)], by rw [List.length_append, List.length_singleton], hlt3, by go_num, ?_, fun y hy => ?_, ?_, by rw [List.length_append, List.length_singleton]; omega, hE⟩
                  · rw [List.length_append, List.length_singleton, flatC_snoc]; exact HOA.out
                  · rcases List.mem_append.1 hy with hy | hy
                    · exact hEr y ((HVZ.out y hy).agree (HXA.out.agree fun b (hb : b < w.heap.size) => by omega))
                    · obtain rfl := List.mem_singleton.1 hy
                      exact hEr _ ⟨HR68.out, HR78.out, HKM.out⟩
                  · rw [List.map_append, HZS.out, HKT.out, List.filterMap_append, List.filterMap_cons, HDK.out, if_pos (.inl HBB.out)]; rfl
                case measure => simp [intOf]; omega
            · obtain rfl : j3 = ms.length := by omega
              have HK3 := Lib.hid (List.take_of_length_le (l := ms.map LE.k) (i := ms.length) (by simp))
              clear hown hvz hzs hX5 hbm
              go_wp2_with fail
              go_ret
              refine ⟨r, zs, rfl, ?_, HX.out.trans HX5.out, ?_⟩
              · rw [HZS.out, HK3.out, refC, HES1.out, ← HME.out, List.map_map]; rfl
              · have := HX.out.trans HX5.out
                exact ⟨(Rd.of_own HOWN.out).mono fun i hi => hi.2, fun x hx => (HVZ.out x hx).mono fun i (hi : i < w.heap.size) => Nat.lt_of_lt_of_le hi this.size, by omega⟩
end Go.Proofs.Ytpapoalgocmlaaa
namespace Go.Proofs.Ytpapoalgocmlaaa
open Go.RowKit
set_option linter.unusedVariables false
set_option maxRecDepth 100000
structure IS (w : World) (F : Nat → Prop) (s : Sl) (xs : List Int) : Prop where
  ex : ∃ b o, SlAt F s xs.length b o ∧ ∀ j x, xs[j]? = some x → w.cell? ⟨b, o + j, none⟩ = some (.int .i64 x)
  wf : ∀ x ∈ xs, (Lit.int .i64 x).wf = true
  few : xs.length * 8 ≤ 140737488355328
theorem IS.at {w : World} {F : Nat → Prop} {s : Sl} {xs : List Int} (h : IS w F s xs) {i : Nat} {x : Int} (hx : xs[i]? = some x) : ∃ b o, s.a = some ⟨b, o, none⟩ ∧ F b ∧ xs.length ≤ s.c ∧ s.c ≤ maxLen ∧ w.cell? ⟨b, o + i, none⟩ = some (.int .i64 x) ∧ (Lit.int .i64 x).wf = true := by
  obtain ⟨b, o, h1, h2⟩ := h.ex
  obtain ⟨e1, e2, e3⟩ := h1.eq (lt_length hx)
  exact ⟨b, o, e1, h1.fits (lt_length hx), e2, e3, h2 i x hx, h.wf x (List.mem_of_getElem? hx)⟩
theorem IS.agree {w w' : World} {F : Nat → Prop} {s : Sl} {xs : List Int} (h : IS w F s xs) (ha : Agree F w w') : IS w' F s xs := by
  obtain ⟨⟨b, o, h1, h2⟩, h3, h4⟩ := h
  exact ⟨⟨b, o, h1, fun j x hx => (ha.cell (h1.fits (lt_length hx))).trans (h2 j x hx)⟩, h3, h4⟩
end Go.Proofs.Ytpapoalgocmlaaa
namespace Go.Proofs.Ytpapoalgocmlaaa
open Go.RowKit
set_option linter.unusedVariables false
set_option linter.unusedSimpArgs false
theorem PlayI.more {H G : Nat → Prop} {M : Nat} {T : RT} {w : World} (h : PlayI H M T w) (hH : ∀ b, H b → G b) (hG : ∀ b, b < w.heap.size → G b → H b) : PlayI G M T w :=
  ⟨h.map.more hH hG, h.tree.mono fun i hi => ⟨hi.1, fun hh => hi.2 (hG i hi.1 hh)⟩, h.ok⟩
abbrev mapP (M : Nat) : Value := .pointer (some ⟨M, 0, none⟩)
structure KeepI (base : Nat) (H : Nat → Prop) (ts ms : Sl) (Ts : List RT) (Ms : List Nat) (W : World) : Prop where
  len : Ms.length ≤ Ts.length
  tro : W.ownsRow base 30 1 (.slice ts.a Ts.length ts.c) Ts.length (Ts.map rootV)
  mro : W.ownsRow base 80 1 (.slice ms.a Ms.length ms.c) Ms.length (Ms.map mapP)
  hH : ∀ b, H b → base ≤ b ∧ b < W.heap.size
  rt : ∀ b, ts.row = some b → H b ∧ b ∉ Ms ∧ ms.row ≠ some b
  rm : ∀ b, ms.row = some b → H b ∧ b ∉ Ms
  play : ∀ (k : Nat) (T : RT) (M : Nat), Ts[k]? = some T → Ms[k]? = some M → PlayI H M T W
section
variable {base : Nat} {H : Nat → Prop} {ts ms : Sl} {Ts : List RT} {Ms : List Nat} {W W' : World}
theorem KeepI.hm (h : KeepI base H ts ms Ts Ms W) {M : Nat} (hM : M ∈ Ms) : H M := by
  obtain ⟨k, hk⟩ := List.getElem?_of_mem hM
  have hl := (List.getElem?_eq_some_iff.1 hk).1
  exact (h.play k (Ts[k]'(by have := h.len; omega)) M (List.getElem?_eq_getElem _) hk).map.hm
theorem KeepI.ext (h : KeepI base H ts ms Ts Ms W) (k : Ext W W') : KeepI base H ts ms Ts Ms W' :=
  ⟨h.len, own_agree h.tro (k.agree fun b (hb : Lt W.heap.size b) => hb) (fun b hb => (h.hH b (h.rt b hb).1).2), own_agree h.mro (k.agree fun b (hb : Lt W.heap.size b) => hb) (fun b hb => (h.hH b (h.rm b hb).1).2),
    fun b hb => ⟨(h.hH b hb).1, Nat.lt_of_lt_of_le (h.hH b hb).2 k.size⟩, h.rt, h.rm, fun i T M hT hM => (h.play i T M hT hM).ext k⟩
theorem KeepI.grow {G : Nat → Prop} (h : KeepI base H ts ms Ts Ms W) (k : Ext W W') (hHG : ∀ b, H b → G b) (hG : ∀ b, b < W.heap.size → G b → H b) (hGb : ∀ b, G b → base ≤ b ∧ b < W'.heap.size) : KeepI base G ts ms Ts Ms W' :=
  have h' := h.ext k
  ⟨h'.len, h'.tro, h'.mro, hGb, fun b hb => ⟨hHG b (h.rt b hb).1, (h.rt b hb).2⟩, fun b hb => ⟨hHG b (h.rm b hb).1, (h.rm b hb).2⟩, fun i T M hT hM => ((h.play i T M hT hM).more hHG hG).ext k⟩
end
end Go.Proofs.Ytpapoalgocmlaaa
namespace Go.Proofs.Ytpapoalgocmlaaa
open Go.RowKit
set_option linter.unusedVariables false
set_option linter.unusedSimpArgs false
def PlayPost (H : Nat → Prop) (n : Nat) (w : World) (e : Ending) (w' : World) : Prop :=
  ∃ (T' : RT) (p' : Option Addr) (M' : Nat), e = .returned (.tuple #[.agg #[.pointer p'], .pointer (some ⟨M', 0, none⟩)]) ∧ rootV T' = .pointer p' ∧ PlayI (fun b => H b ∨ b = M') M' T' w' ∧ Ext w w' ∧ w.heap.size ≤ M' ∧ (entsT T').length ≤ n
set_option maxRecDepth 100000 in
set_option maxHeartbeats 8000000 in
theorem play_any {H G : Nat → Prop} {M : Nat} {T : RT} {w : World} {s : Sl} {l : List LA} (hI : PlayI H M T w) (hH : ∀ b, H b → b < w.heap.size) (ha : AS w G s l) (hG : ∀ b, G b → b < w.heap.size ∧ ¬ H b) (hc : (entsT T).length + l.length ≤ 100000) {p : Option Addr} (hp : rootV T = .pointer p) :
    Calls Try.prog 83 #[.agg #[.pointer p], .pointer (some ⟨M, 0, none⟩), .slice s.a l.length s.c] w (PlayPost H ((entsT T).length + l.length) w) := by
  have hfew := ha.few
  have hcp := fun (W : World) (hW : Ext w W) => copy7_any ((hI.wide W.heap.size).map.ext hW) (fun b hb => hb.elim (fun hb => Nat.lt_of_lt_of_le (hH b hb) hW.size) fun hb => hb.2) (by omega)
  have HA := Lib.hid ha
  have HI := Lib.hid hI
  have HH := Lib.hid hH
  have HG := Lib.hid hG
  have HP := Lib.hid hp
  have HCP := Lib.hid hcp
  obtain ⟨n0, hn0⟩ : ∃ n, (entsT T).length = n := ⟨_, rfl⟩
  rw [hn0] at hc ⊢
  have HN0 := Lib.hid hn0
  clear ha hI hH hG hp hcp hn0
  go_enter Try.func83, Try.ntmps83
  go_wp2_with fail
  generalize hW0 : World.alloc (World.alloc _ _) _ = W0
  obtain ⟨hx0, hz0, hb0, hb1⟩ := two_blocks w _ _ _ _ W0 hW0
  have hz0l : w.heap.size + 2 ≤ W0.heap.size := by omega
  clear hW0 hz0
  refine (HCP.out W0 hx0).mono ?_
  rintro e w1 ⟨M', rfl, hM', hx1, hmap'⟩
  have hM1 : M' < w1.heap.size := by
    obtain ⟨-, s9, xs9, hb9, -⟩ := hmap'
    exact hb9.lt
  have hs1 := hx1.size
  obtain ⟨K, hK⟩ : ∃ K : Nat → Prop, K = fun b => H b ∨ b = M' ∨ (w.heap.size ≤ b ∧ b < w.heap.size + 2) := ⟨_, rfl⟩
  have hKl : ∀ b, K b → b < w1.heap.size := fun b hb => by
    rw [hK] at hb
    rcases hb with h | h | h
    · have := HH.out b h; have := hx0.size; omega
    · omega
    · omega
  have hI1 : PlayI K M' T w1 := by
    have h1 := hx0.trans hx1
    have hm : MapAt K w1 M' (entsT T) := hmap'.less (fun b hb => by
      rw [hK] at hb
      rcases hb with h | h | h
      · exact .inl (.inl h)
      · exact .inr h
      · exact .inl (.inr (by omega))) (by rw [hK]; exact .inr (.inl rfl))
    exact ⟨hm, (HI.out.tree.agree (h1.agree fun b hb => hb.1)).mono fun i hi => ⟨Nat.lt_of_lt_of_le hi.1 h1.size, fun hh => by
      rw [hK] at hh
      rcases hh with h | h | h
      · exact hi.2 h
      · have := hi.1; omega
      · have := hi.1; omega⟩, HI.out.ok⟩
  have hX1 := hx0.trans hx1
  have hbt1 := hb0.ext hx1
  have hbr1 := hb1.ext hx1
  have HX1 := Lib.hid hX1
  have HI1 := Lib.hid hI1
  have HBT1 := Lib.hid hbt1
  have HBR1 := Lib.hid hbr1
  have HK := Lib.hid hK
  have HKL := Lib.hid hKl
  clear hx0 hb0 hb1 hx1 hmap' hK hKl hI1 hX1 hbt1 hbr1
  go_wp2_with fail
  go_loopw [9] (fun i wr => ∃ (j : Nat) (T' : RT), j ≤ l.length ∧ i = .int .i64 j ∧ (entsT T').length ≤ n0 + j ∧ PlayI K M' T' wr ∧ Blk wr w.heap.size 30 #[rootV T'] ∧ Blk wr (w.heap.size + 1) 30 #[.pointer none] ∧ Ext w wr ∧ w1.heap.size ≤ wr.heap.size) (fun i _ => l.length - (intOf i).toNat)
  case atStart => exact ⟨0, T, Nat.zero_le _, rfl, by rw [HN0.out]; exact Nat.le_refl _, HI1.out, by rw [HP.out]; exact HBT1.out, HBR1.out, HX1.out, Nat.le_refl _⟩
  case round =>
    obtain ⟨j, T1, hj, rfl, hlT, hI, hbT, hbR, hX, hsz⟩ := hrel
    have HI := Lib.hid hI
    have HBT := Lib.hid hbT
    have HBR := Lib.hid hbR
    have HX := Lib.hid hX
    obtain ⟨p1, hp1⟩ := rootV_ptr T1
    rw [hp1] at hbT
    have t0 : wr.cell? ⟨w.heap.size, 0, none⟩ = some (.pointer p1) := hbT.cell 0
    have ft := hbT.frozen 0
    have lt := hbT.lt
    by_cases hlt : j < l.length
    · have g1 : (j : Int) < (l.length : Int) := by omega
      obtain ⟨a, haa⟩ : ∃ a, l[j]? = some a := ⟨_, List.getElem?_eq_getElem hlt⟩
      obtain ⟨b, o, hsa, lb, hcc, hcm, ⟨a0, a1, av⟩, hrv, hkm, hwf⟩ := (HA.out.agree (hX.agree fun b hb => (HG.out b hb).1)).at haa
      obtain ⟨v0, v1, v2, v3, v4, v5⟩ := av
      obtain ⟨sa, sc⟩ := s
      dsimp only at hsa hcc hcm
      subst hsa
      have lbw := (HG.out b lb).1
      have hGK : ∀ i, G i → i < wr.heap.size ∧ ¬ K i := fun i hi => ⟨by have := (HG.out i hi).1; omega, fun hh => by
        rw [HK.out] at hh
        have := (HG.out i hi).1
        rcases hh with h | h | h
        · exact (HG.out i hi).2 h
        · omega
        · omega⟩
      have hdo := doI (a := a) hI (fun b hb => by have := HKL.out b hb; omega) (by omega) hkm (hrv.mono hGK) hp1
      have HSS := Lib.hid (show ∀ W, St (fun b => b = M' ∨ b = w.heap.size) wr W → W.cell? ⟨b, o + j * 8, none⟩ = some (.int .i64 a.kd) ∧ W.cell? ⟨b, o + j * 8 + 1, none⟩ = some (.string a.k) ∧ W.cell? ⟨b, o + j * 8 + 2, none⟩ = some (.int .i64 a.v.kind) ∧ W.cell? ⟨b, o + j * 8 + 3, none⟩ = some (.bool a.v.b) ∧ W.cell? ⟨b, o + j * 8 + 4, none⟩ = some (.int .i64 a.v.i) ∧ W.cell? ⟨b, o + j * 8 + 5, none⟩ = some (.string a.v.t) ∧ W.cell? ⟨b, o + j * 8 + 6, none⟩ = some (.slice a.sl.a a.v.l.length a.sl.c) ∧ W.cell? ⟨b, o + j * 8 + 7, none⟩ = some (.slice a.so.a a.v.ok.length a.so.c) from
        fun W hW => ⟨(hW.cell (by omega) (by omega)).trans a0, (hW.cell (by omega) (by omega)).trans a1, (hW.cell (by omega) (by omega)).trans v0, (hW.cell (by omega) (by omega)).trans v1, (hW.cell (by omega) (by omega)).trans v2, (hW.cell (by omega) (by omega)).trans v3, (hW.cell (by omega) (by omega)).trans v4, (hW.cell (by omega) (by omega)).trans v5⟩)
      have HDO := Lib.hid hdo
      have HP1 := Lib.hid hp1
      have HOK := Lib.hid hI.ok
      have hneM : ¬ w.heap.size = M' := by omega
      have hneM' : ¬ w.heap.size + 1 = M' := by omega
      clear hI hX haa hrv a0 a1 v0 v1 v2 v3 v4 v5 hdo hp1 hbT hbR hGK
      go_wp2_with fail
      refine wp_region_held_drew (S := (fun w' => St (fun b => b = M' ∨ b = w.heap.size) wr w')) (by kernel_rfl) (((St.refl _ wr).drew)) (fun hHeld => ?_)
      refine held_on (i := 1) (d := (some 20)) (v := ?_) rfl rfl (by kernel_rfl) (by kernel_rfl) (by kernel_rfl) (fun _ _ _ h => h) (by rfl) hHeld ?_ ?_
      rotate_left
      focus (intro w hSw; have hSc := HSS.out w hSw; clear hSw; go_simp; first | done | with_reducible rfl)
      try simp only [Act.put, List.setIfInBounds_toArray, List.set_cons_zero, List.set_cons_succ]
      refine held_on (i := 2) (d := (some 21)) (v := ?_) rfl rfl (by kernel_rfl) (by kernel_rfl) (by kernel_rfl) (fun _ _ _ h => h) (by rfl) hHeld ?_ ?_
      rotate_left
      focus (intro w hSw; have hSc := HSS.out w hSw; clear hSw; go_simp; first | done | with_reducible rfl)
      try simp only [Act.put, List.setIfInBounds_toArray, List.set_cons_zero, List.set_cons_succ]
      refine held_on (i := 3) (d := (some 22)) (v := ?_) rfl rfl (by kernel_rfl) (by kernel_rfl) (by kernel_rfl) (fun _ _ _ h => h) (by rfl) hHeld ?_ ?_
      rotate_left
      focus (intro w hSw; have hSc := HSS.out w hSw; clear hSw; go_simp; first | done | with_reducible rfl)
      try simp only [Act.put, List.setIfInBounds_toArray, List.set_cons_zero, List.set_cons_succ]
      refine held_on (i := 4) (d := (some 23)) (v := ?_) rfl rfl (by kernel_rfl) (by kernel_rfl) (by kernel_rfl) (fun _ _ _ h => h) (by rfl) hHeld ?_ ?_
      rotate_left
      focus (intro w hSw; have hSc := HSS.out w hSw; clear hSw; go_simp; first | done | with_reducible rfl)
      try simp only [Act.put, List.setIfInBounds_toArray, List.set_cons_zero, List.set_cons_succ]
      refine held_on (i := 5) (d := (some 24)) (v := ?_) rfl rfl (by kernel_rfl) (by kernel_rfl) (by kernel_rfl) (fun _ _ _ h => h) (by rfl) hHeld ?_ ?_
      rotate_left
      focus (intro w hSw; have hSc := HSS.out w hSw; clear hSw; go_simp; first | done | with_reducible rfl)
      try simp only [Act.put, List.setIfInBounds_toArray, List.set_cons_zero, List.set_cons_succ]
      refine held_call (i := 0) (by kernel_rfl) rfl (by rfl) (fun K hK => ?_)
      go_simp
      skip
      refine hK.out _ _ (hHeld) (fun hHeld => ?_)
      clear hK K
      try simp only [Act.put, List.setIfInBounds_toArray, List.set_cons_zero, List.set_cons_succ]
      refine held_call (i := 6) (by kernel_rfl) rfl (by rfl) (fun K hK => ?_)
      go_simp
      (refine (HDO.out _ ((Ext.refl wr).drew)).mono ?_; rintro e w2 ⟨T', p', rfl, hp', hst', hI', hs2⟩; have HP' := Lib.hid hp'; have HST' := Lib.hid hst'; have HI' := Lib.hid hI'; have hs3 := ((St.refl (fun b => b = M') wr).drew).trans hs2; have hb6 := hs3.blk HBT.out hneM; have HB6 := Lib.hid hb6; have HB7 := Lib.hid (hs3.blk HBR.out hneM'); rw [HP1.out] at hb6; have c6 : w2.cell? ⟨w.heap.size, 0, none⟩ = some (.pointer p1) := hb6.cell 0; have f6 := hb6.frozen 0; have l6 := hb6.lt; have HS6 := Lib.hid (hs3.mono (G := fun b => b = M' ∨ b = w.heap.size) fun i _ hi => .inl hi); clear hp' hst' hI' hb6 hs2 hs3)
      refine hK.out _ _ (HS6.out) (fun hHeld => ?_)
      clear hK K
      try simp only [Act.put, List.setIfInBounds_toArray, List.set_cons_zero, List.set_cons_succ]
      refine held_on (i := 7) (d := (some 18)) (v := ?_) rfl rfl (by kernel_rfl) (by kernel_rfl) (by kernel_rfl) (fun _ _ _ h => h) (by rfl) hHeld ?_ ?_
      rotate_left
      focus (intro w hSw; have hSc := HSS.out w hSw; clear hSw; go_simp; first | done | with_reducible rfl)
      try simp only [Act.put, List.setIfInBounds_toArray, List.set_cons_zero, List.set_cons_succ]
      refine held_on (i := 8) (d := (some 26)) (v := ?_) rfl rfl (by kernel_rfl) (by kernel_rfl) (by kernel_rfl) (fun _ _ _ h => h) (by rfl) hHeld ?_ ?_
      rotate_left
      focus (intro w hSw; have hSc := HSS.out w hSw; clear hSw; go_simp; first | done | with_reducible rfl)
      try simp only [Act.put, List.setIfInBounds_toArray, List.set_cons_zero, List.set_cons_succ]
      refine held_on (i := 9) (d := (some 27)) (v := ?_) rfl rfl (by kernel_rfl) (by kernel_rfl) (by kernel_rfl) (fun _ _ _ h => h) (by rfl) hHeld ?_ ?_
      rotate_left
      focus (intro w hSw; have hSc := HSS.out w hSw; clear hSw; go_simp; first | done | with_reducible rfl)
      try simp only [Act.put, List.setIfInBounds_toArray, List.set_cons_zero, List.set_cons_succ]
      refine held_call (i := 10) (by kernel_rfl) rfl (by rfl) (fun K hK => ?_)
      go_simp
      skip
      refine hK.out _ _ (hHeld.set (p := ⟨w.heap.size, 0, none⟩) (.inr (.inr rfl)) _) (fun hHeld => ?_)
      clear hK K
      try simp only [Act.put, List.setIfInBounds_toArray, List.set_cons_zero, List.set_cons_succ]
      refine wpAnyH_done (by kernel_rfl) ?_ _
      have hset : St (fun b => b = w.heap.size) w2 (w2.setCell ⟨w.heap.size, 0, none⟩ (.pointer p')) := (St.refl (fun b => b = w.heap.size) w2).set (p := ⟨w.heap.size, 0, none⟩) (.inr rfl) _
      have hlen' : (entsT T').length ≤ n0 + (j + 1) := by
        rw [HST'.out.ents HOK.out]
        have := stepE_len a.kd a.k a.v (entsT T1)
        omega
      have HN := Lib.hid ((HI'.out.less (fun b hb => .inl hb) (by rw [HK.out]; exact .inr (.inl rfl))).st hset (fun b hb => by rw [HK.out]; exact .inr (.inr ⟨by omega, by omega⟩)) (fun e => hneM e.symm))
      have HBN := Lib.hid (show Blk (w2.setCell ⟨w.heap.size, 0, none⟩ (.pointer p')) w.heap.size 30 #[rootV T'] by rw [HP'.out]; exact HB6.out.set_ 0 _)
      have HBM := Lib.hid (hset.blk HB7.out (show ¬ w.heap.size + 1 = w.heap.size by omega))
      have HXN := Lib.hid (HX.out.step hHeld (fun b hb => by omega))
      have hszn : w1.heap.size ≤ (w2.setCell ⟨w.heap.size, 0, none⟩ (.pointer p')).heap.size := Nat.le_trans hsz hHeld.size
      generalize w2.setCell ⟨w.heap.size, 0, none⟩ (.pointer p') = w8 at *
      clear hHeld hset c6 f6 l6 t0 ft lt
      go_wp2_with fail
      go_roundw
      case rel => exact ⟨j + 1, T', hlt, by go_num, hlen', HN.out, HBN.out, HBM.out, HXN.out, hszn⟩
      case measure => simp [intOf]; omega
    · have g1 : ¬ (j : Int) < (l.length : Int) := by omega
      have r0 : wr.cell? ⟨w.heap.size + 1, 0, none⟩ = some (.pointer none) := hbR.cell 0
      have fr := hbR.frozen 0
      have lr := hbR.lt
      have HP1 := Lib.hid hp1
      clear hI hX hp1 hbT hbR
      go_wp2_with fail
      have hset : St (fun b => b = w.heap.size + 1) wr (wr.setCell ⟨w.heap.size + 1, 0, none⟩ (.pointer p1)) := (St.refl (fun b => b = w.heap.size + 1) wr).set (p := ⟨w.heap.size + 1, 0, none⟩) (.inr rfl) _
      have qr : (wr.setCell ⟨w.heap.size + 1, 0, none⟩ (.pointer p1)).cell? ⟨w.heap.size + 1, 0, none⟩ = some (.pointer p1) := World.cell?_setCell_same wr _ _ r0
      refine bodyPost_ret (v := .tuple #[.agg #[.pointer p1], .pointer (some ⟨M', 0, none⟩)]) (by simp [results, Try.results83, go_sem, qr]) rfl ?_
      have hlow := hz0l
      refine ⟨T1, p1, M', rfl, HP1.out, ?_, HX.out.setCell (p := ⟨w.heap.size + 1, 0, none⟩) (Nat.le_succ _) _, by omega, by omega⟩
      exact (HI.out.st hset (fun b hb => by rw [HK.out]; exact .inr (.inr ⟨by omega, by omega⟩)) (by omega)).less (fun b hb => by rw [HK.out]; exact hb.elim .inl fun h => .inr (.inl h)) (.inr rfl)
end Go.Proofs.Ytpapoalgocmlaaa
namespace Go.Proofs.Ytpapoalgocmlaaa
open Go.RowKit Go.Shelf
set_option linter.unusedVariables false
set_option linter.unusedSimpArgs false
structure Pl (base : Nat) (H : Nat → Prop) (M : Nat) (T : RT) (p : Option Addr) (n : Nat) (W : World) : Prop where
  lo : ∀ b, H b → base ≤ b
  sz : base ≤ W.heap.size
  play : PlayI H M T W
  hH : ∀ b, H b → b < W.heap.size
  root : rootV T = .pointer p
  few : (entsT T).length ≤ n
theorem Pl.ext {base : Nat} {H : Nat → Prop} {M : Nat} {T : RT} {p : Option Addr} {n : Nat} {w w' : World} (h : Pl base H M T p n w) (k : Ext w w') : Pl base H M T p n w' := ⟨h.lo, Nat.le_trans h.sz k.size, h.play.ext k, fun b hb => Nat.lt_of_lt_of_le (h.hH b hb) k.size, h.root, h.few⟩
theorem Pl.run {base : Nat} {H G : Nat → Prop} {M : Nat} {T : RT} {p : Option Addr} {n : Nat} {w : World} {s : Sl} {l : List LA} (h : Pl base H M T p n w) (ha : AS w G s l) (hG : ∀ b, G b → b < w.heap.size ∧ ¬ H b) (hc : n + l.length ≤ 100000) :
    Calls Try.prog 83 #[.agg #[.pointer p], .pointer (some ⟨M, 0, none⟩), .slice s.a l.length s.c] w fun e w' => ∃ (T' : RT) (p' : Option Addr) (M' : Nat), e = .returned (.tuple #[.agg #[.pointer p'], .pointer (some ⟨M', 0, none⟩)]) ∧ Pl base (fun b => H b ∨ b = M') M' T' p' (n + l.length) w' ∧ Ext w w' ∧ w.heap.size ≤ M' := by
  have hsz := h.sz
  have hf := h.few
  refine (play_any h.play h.hH ha hG (by omega) h.root).mono ?_
  rintro e w' ⟨T', p', M', rfl, hp', hI, hx, hM, hl⟩
  refine ⟨T', p', M', rfl, ⟨fun b hb => hb.elim (h.lo b) (fun e => by omega), Nat.le_trans hsz hx.size, hI, fun b hb => ?_, hp', by omega⟩, hx, hM⟩
  rcases hb with hb | rfl
  · exact Nat.lt_of_lt_of_le (h.hH b hb) hx.size
  · obtain ⟨-, s9, xs9, hb9, -⟩ := hI.map
    exact hb9.lt
theorem Pl.list {base : Nat} {H : Nat → Prop} {M : Nat} {T : RT} {p : Option Addr} {n : Nat} {w : World} (h : Pl base H M T p n w) : ∃ (s : Sl) (xs : List LE), Blk w M 82 #[.slice s.a xs.length s.c] ∧ ES w (Lt w.heap.size) s xs ∧ xs.map LE.ent = entsT T ∧ xs.length ≤ n := by
  obtain ⟨-, s, xs, hb, hs, hx⟩ := h.play.map
  exact ⟨s, xs, hb, hs.mono fun i hi => hi.1, hx, by have := h.few; rw [← hx, List.length_map] at this; exact this⟩
theorem ref_calls {w : World} {T U : RT} {s s' : Sl} {xs ys : List LE} (hs : ES w (Lt w.heap.size) s xs) (hs' : ES w (Lt w.heap.size) s' ys) (hx : xs.map LE.ent = entsT T) (hy : ys.map LE.ent = entsT U) (so : Sorted (entsT T)) (so' : Sorted (entsT U)) (hn : xs.length ≤ 100000) (hn' : ys.length ≤ 100000) :
    ∀ W, Ext w W → Calls Try.prog 85 #[.slice s.a xs.length s.c, .slice s'.a ys.length s'.c] W fun e w' => ∃ (r : Sl) (zs : List CE), e = .returned (.slice r.a zs.length r.c) ∧ zs.map CE.c = chg (entsT T) (entsT U) ∧ Ext W w' ∧ CS w' (Lt w'.heap.size) r zs := fun W hW => by
  have := refC9_any ((hs.agree (hW.agree fun _ h => h)).mono fun i (hi : i < w.heap.size) => Nat.lt_of_lt_of_le hi hW.size) ((hs'.agree (hW.agree fun _ h => h)).mono fun i (hi : i < w.heap.size) => Nat.lt_of_lt_of_le hi hW.size) hn hn' (by rw [hx]; exact so) (by rw [hy]; exact so')
  rw [hx, hy, ← chg_ref so so'] at this
  exact this
theorem Pl.box {base : Nat} {H : Nat → Prop} {M : Nat} {T : RT} {p : Option Addr} {n : Nat} {w : World} (h : Pl base H M T p n w) (cs : Array Value) (t : TypeId) : Pl base (fun b => H b ∨ b = w.heap.size) M T p n (w.alloc (.cells cs t)) := by
  have hx := (Ext.refl w).alloc cs t
  have hz : (w.alloc (.cells cs t)).heap.size = w.heap.size + 1 := by simp
  refine ⟨fun b hb => hb.elim (h.lo b) (fun e => by have := h.sz; omega), Nat.le_trans h.sz hx.size, (((h.play.wide (w.heap.size + 1)).less (fun b hb => hb.elim .inl fun e => .inr (by omega)) (.inl h.play.map.hm)).ext hx), fun b hb => ?_, h.root, h.few⟩
  rcases hb with hb | hb
  · have := h.hH b hb; omega
  · omega
theorem Pl.set {base : Nat} {H : Nat → Prop} {M : Nat} {T : RT} {p : Option Addr} {n : Nat} {w : World} (h : Pl base H M T p n w) {b : Nat} (hb : H b) (hM : M ≠ b) (v : Value) : Pl base H M T p n (w.setCell ⟨b, 0, none⟩ v) :=
  ⟨h.lo, by rw [World.size_setCell]; exact h.sz, h.play.st ((St.refl (fun i => i = b) w).set (p := ⟨b, 0, none⟩) (.inr rfl) v) (fun i hi => hi ▸ hb) hM, fun i hi => by rw [World.size_setCell]; exact h.hH i hi, h.root, h.few⟩
end Go.Proofs.Ytpapoalgocmlaaa
